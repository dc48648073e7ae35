/- The contracts of code.Eval and code.Holds, of joined, and that awake answers true. Conditions: the package variables read as laid. -/
import Derived.Test.YtbhpjpeknooppaaDoorK02
import Derived.Test.YtbhpjpeknooppaaDoorK06
import Derived.Test.YtbhpjpeknooppaaDoorK07
import Derived.Test.YtbhpjpeknooppaaDoorK10
import Derived.Test.YtbhpjpeknooppaaDoorK11
import Derived.Test.YtbhpjpeknooppaaDoorK12
import Derived.Test.YtbhpjpeknooppaaDoorK13
import Derived.BigQuiet
import Derived.Deep.QuietTactic
import Derived.KernelRfl
import Derived.LoopN
import Derived.LoopTactic
import Derived.StillTailTactics
namespace Go.Proofs.YtbhpjpeknooppaaDoor.M
open Go.RowKit Go.Proofs.YtbhpjpeknooppaaDoorW.PrintWords Go.Proofs.YtbhpjpeknooppaaDoorW.PrintLast Go.Proofs.YtbhpjpeknooppaaDoorW.PrintMore
open Go.Proofs.YtbhpjpeknooppaaDoor.PCodeSpares
set_option linter.unusedVariables false
set_option linter.unusedSimpArgs false
def ev_r.T : Bool × List (List Nat × List Nat) := (true, [([], []), ([0], [0]), ([], []), ([], []), ([3], [3]), ([2, 4], [2, 4]), ([], []), ([], []), ([7], [7]), ([6, 8, 5], [6, 8]), ([1, 5, 9, 9], [1, 5, 9]), ([10, 10, 0, 1, 2, 3, 4, 5, 6, 7, 8, 9, 10], [10])])
def ev_r.B : List Nat := [0, 1, 0, 0, 8, 28, 0, 0, 128, 508, 1023, 2047]
theorem ev_r.tab : rtab .any (opsOf Tryd.f25 26) = ev_r.T := by kernel_rfl
theorem ev_r.bits : waitsOk ev_r.T.2 ev_r.B = true := by kernel_rfl
def rd_r.T : Bool × List (List Nat × List Nat) := (true, [([], []), ([], []), ([0, 1], [0, 1]), ([2], [2]), ([], []), ([4], [4]), ([5], [5]), ([6], [6]), ([], []), ([], []), ([8, 9], [8, 9]), ([10], [10]), ([11], [11]), ([], []), ([7, 12, 13], [7, 12, 13]), ([3, 14, 14], [3, 14]), ([15, 15, 0, 1, 2, 3, 4, 5, 6, 7, 8, 9, 10, 11, 12, 13, 14, 15], [15])])
def rd_r.B : List Nat := [0, 0, 3, 7, 0, 16, 48, 112, 0, 0, 768, 1792, 3840, 0, 16368, 32767, 65535]
theorem rd_r.tab : rtab .any (opsOf Tryd.f44 3) = rd_r.T := by kernel_rfl
theorem rd_r.bits : waitsOk rd_r.T.2 rd_r.B = true := by kernel_rfl
structure EvP (w : World) (ge : Nat) (T0 : Option Addr) (tc : Nat) (types : List S65) (A : Option Addr) (c : Nat) (t : List S61) (gi ci : Nat) (items : List Int) (AL : Option Addr) (cL : Nat) (L : List (List S73)) (each at_ : Int) : Prop where
 hglob : Glob w
 hcells : w.heap[ge]? = some (.cells #[.slice T0 types.length tc, .slice A t.length c, .slice (some ⟨gi, 0, none⟩) t.length ci, .slice AL L.length cL, .int .i64 each, .int .i64 at_] 92 (0, 0))
 htypes : Kd.C k65 w T0 types.length types
 htlen : types.length ≤ tc
 htree : Kd.C k61 w A t.length t
 hitems : Kd.C (Kd.int .i64) w (some ⟨gi, 0, none⟩) t.length items
 hlists : Kd.C (Kd.slice 73 k73) w AL L.length L
theorem EvP.below {w w1 : World} {ge : Nat} {T0 : Option Addr} {tc : Nat} {types : List S65} {A : Option Addr} {c : Nat} {t : List S61} {gi ci : Nat} {items : List Int} {AL : Option Addr} {cL : Nat} {L : List (List S73)} {each at_ : Int} (h : EvP w ge T0 tc types A c t gi ci items AL cL L each at_) (hb : Below w.heap.size w w1) : EvP w1 ge T0 tc types A c t gi ci items AL cL L each at_ :=
 ⟨h.hglob.below hb, blk_below h.hcells hb, Kd.C_below h.htypes hb, h.htlen, Kd.C_below h.htree hb, Kd.C_below h.hitems hb, Kd.C_below h.hlists hb⟩
theorem val_is (e : S73) (k : Nat) (hk : e.f2 = (k : Int)) (i : Int) (w : World) :
  Calls Tryd.prog 49 #[.agg #[.int .i64 e.f0, .int .u64 e.f1, .int .i64 (k : Int), .int .i64 e.f3, .int .i64 e.f4, .int .i64 e.f5, .int .i64 e.f6, .int .i64 e.f7, .int .i64 e.f8, .int .i64 e.f9, .int .i64 e.f10], .int .i64 i] w fun x w' => x = .returned (.agg #[.bool (valueV e i).1, .int .i64 (valueV e i).2]) ∧ Below w.heap.size w w' := by
 have h := code_value e i w
 rw [hk] at h
 exact h
theorem int_c_at {W : World} {g n : Nat} {xs : List Int} (h : Kd.C (Kd.int .i64) W (some ⟨g, 0, none⟩) n xs) (i : Nat) (hi : i < n) : W.cell? ⟨g, i, none⟩ = some (.int .i64 (xs.getD i 0)) := by
 obtain ⟨ad, c, he, hl, hK, hc⟩ := Kd.C_get h (0 : Int) (i : Int) (by omega) (by omega)
 obtain rfl := Option.some.inj he
 have hK' : c = [.int .i64 (xs.getD (i : Int).toNat 0)] := hK
 subst hK'
 have := hc 0 _ rfl
 rw [Int.toNat_natCast, show i * (Kd.int .i64).sz + 0 = i from Nat.mul_one i, add_plain] at this
 exact this
set_option maxHeartbeats 8000000 in
set_option maxRecDepth 100000 in
theorem ev_read (w : World) (ge : Nat) (T0 : Option Addr) (tc : Nat) (types : List S65) (A : Option Addr) (c : Nat) (t : List S61) (gi ci : Nat) (items : List Int) (AL : Option Addr) (cL : Nat) (L : List (List S73)) (each at_ : Int) (hE : EvP w ge T0 tc types A c t gi ci items AL cL L each at_) (Al : Option Addr) (cl : Nat) (l : List S73) (hl : Kd.C k73 w Al l.length l) (j : Int) (h0 : 0 ≤ j) (h1 : j < l.length) (v : ByteArray) (k : Nat) (hk : (rd_T73 l j).f2 = (k : Int)) (hkt : k < types.length) :
  Calls Tryd.prog 44 #[.pointer (some ⟨ge, 0, none⟩), .slice Al l.length cl, .int .i64 j, .string v] w fun e w' => e = .returned (.agg #[.bool (valueV (rd_T73 l j) (attrO types (k : Int) v)).1, .int .i64 (valueV (rd_T73 l j) (attrO types (k : Int) v)).2]) ∧ Below w.heap.size w w' := by
 have HE_ := am hE
 have HL := am hl
 have HK := am hk
 have HKT := am hkt
 have HB := am (Below.refl w.heap.size w)
 have e0 : decide (j < 0) = false := by simp; omega
 have e1 : decide ((l.length : Int) ≤ j) = false := by simp; omega
 clear hE hl hk hkt
 go_enter Tryd.func44, Tryd.ntmps44
 go_wp2_with (first | ((with_reducible refine gate_dst (N := 8) rfl ?_); refine box_event ?hg (N := 8) ?hd (cs := #[.bool false, .int .i64 0]) (t := 50) ?hr ?_; (case hd => rfl); (case hg => rfl); (case hr => first | (go_simp; done) | (go_simp; rfl)); intro g8 hg_ W1 hbox hb; have GE_g8 := ge1 hg_ HB; replace HB := bs HB hb; replace HE_ := am (HE_.out.below hb); replace HL := bC HL hb; have BK_g8 := am hbox; have c_g8 := cf2 BK_g8; clear hb hbox hg_; have v0 : W1.cell? ⟨ge, 0, none⟩ = some (.slice T0 types.length tc) := (blk_cell HE_.out.hcells 0).trans rfl; obtain ⟨ad, rfl, g0, g1, g2, g3, g4, g5, g6, g7, g8, g9, g10⟩ := at_T73 HL.out j h0 h1; rw [HK.out] at g2))
 refine start_ (n := 17) (S := fun w' => w'.cell? ⟨ge, 0, none⟩ = some (.slice T0 types.length tc) ∧ w'.cell? (ad.add (j.toNat * 11)) = some (.int .i64 (rd_T73 l j).f0) ∧ w'.cell? ⟨(ad.add (j.toNat * 11)).block, (ad.add (j.toNat * 11)).off + 1, none⟩ = some (.int .u64 (rd_T73 l j).f1) ∧ w'.cell? ⟨(ad.add (j.toNat * 11)).block, (ad.add (j.toNat * 11)).off + 2, none⟩ = some (.int .i64 (k : Int)) ∧ w'.cell? ⟨(ad.add (j.toNat * 11)).block, (ad.add (j.toNat * 11)).off + 3, none⟩ = some (.int .i64 (rd_T73 l j).f3) ∧ w'.cell? ⟨(ad.add (j.toNat * 11)).block, (ad.add (j.toNat * 11)).off + 4, none⟩ = some (.int .i64 (rd_T73 l j).f4) ∧ w'.cell? ⟨(ad.add (j.toNat * 11)).block, (ad.add (j.toNat * 11)).off + 5, none⟩ = some (.int .i64 (rd_T73 l j).f5) ∧ w'.cell? ⟨(ad.add (j.toNat * 11)).block, (ad.add (j.toNat * 11)).off + 6, none⟩ = some (.int .i64 (rd_T73 l j).f6) ∧ w'.cell? ⟨(ad.add (j.toNat * 11)).block, (ad.add (j.toNat * 11)).off + 7, none⟩ = some (.int .i64 (rd_T73 l j).f7) ∧ w'.cell? ⟨(ad.add (j.toNat * 11)).block, (ad.add (j.toNat * 11)).off + 8, none⟩ = some (.int .i64 (rd_T73 l j).f8) ∧ w'.cell? ⟨(ad.add (j.toNat * 11)).block, (ad.add (j.toNat * 11)).off + 9, none⟩ = some (.int .i64 (rd_T73 l j).f9) ∧ w'.cell? ⟨(ad.add (j.toNat * 11)).block, (ad.add (j.toNat * 11)).off + 10, none⟩ = some (.int .i64 (rd_T73 l j).f10)) (ds := [16]) #[false, false, false, false, false, false, false, false, false, false, false, false, false, false, false, false, false] (by kernel_rfl) rfl rfl ⟨v0, g0, g1, g2, g3, g4, g5, g6, g7, g8, g9, g10⟩ (fun hHeld => ?_)
 refine with_tabW rd_r.tab rd_r.bits (fun HT_ HW_ => ?_)
 clear v0 c_g8 g0 g1 g2 g3 g4 g5 g6 g7 g8 g9 g10
 have HED := am (HE_.out.below (below_drew1 (Below.refl _ _)))
 have HLD := am (Kd.C_below HL.out (below_drew1 (Below.refl _ _)))
 have HBD := am (below_drew1 HB.out)
 have BKD := am (blk_drew BK_g8.out)
 clear HE_ HL HB BK_g8
 generalize W1.drew = W5 at hHeld HED HLD HBD BKD ⊢
 refine pure_ (i := 0) (N := some 18) (v := ?_) (a' := ?_) #[true, false, false, false, false, false, false, false, false, false, false, false, false, false, false, false, false] rfl rfl (any_of HT_.out (by kernel_rfl)) (fun _ _ _ h => h) (Or.inl ⟨by rfl, ?_⟩) ?_ ?_
 rotate_left
 ·intro w'
  go_simp
  with_reducible rfl
 rotate_left
 ·simp only [Act.put, List.setIfInBounds_toArray, List.set_cons_zero, List.set_cons_succ, i64_w]
  rfl
 refine pure_ (i := 1) (N := some 19) (v := ?_) (a' := ?_) #[true, true, false, false, false, false, false, false, false, false, false, false, false, false, false, false, false] rfl rfl (any_of HT_.out (by kernel_rfl)) (fun _ _ _ h => h) (Or.inl ⟨by rfl, ?_⟩) ?_ ?_
 rotate_left
 ·intro w'
  go_simp
  with_reducible rfl
 rotate_left
 ·simp only [Act.put, List.setIfInBounds_toArray, List.set_cons_zero, List.set_cons_succ, i64_w]
  rfl
 refine pure_ (i := 2) (N := some 20) (v := ?_) (a' := ?_) #[true, true, true, false, false, false, false, false, false, false, false, false, false, false, false, false, false] rfl rfl (any_of HT_.out (by kernel_rfl)) (fun _ _ _ h => h) (Or.inl ⟨by rfl, ?_⟩) ?_ ?_
 rotate_left
 ·intro w'
  go_simp
  with_reducible rfl
 rotate_left
 ·simp only [Act.put, List.setIfInBounds_toArray, List.set_cons_zero, List.set_cons_succ, i64_w]
  rfl
 refine take_ (i := 3) (N := some 21) (v := ?_) (a' := ?_) #[true, true, true, true, false, false, false, false, false, false, false, false, false, false, false, false, false] rfl rfl (take_ofW HT_.out HW_.out (by kernel_rfl)) (fun _ _ _ h => h) (Or.inl ⟨by rfl, ?_⟩) hHeld ?_ ?_
 rotate_left
 ·rintro w' ⟨s0, s1, s2, s3, s4, s5, s6, s7, s8, s9, s10, s11⟩
  go_simp
  with_reducible rfl
 rotate_left
 ·simp only [Act.put, List.setIfInBounds_toArray, List.set_cons_zero, List.set_cons_succ, i64_w]
  rfl
 refine pure_ (i := 4) (N := some 22) (v := ?_) (a' := ?_) #[true, true, true, true, true, false, false, false, false, false, false, false, false, false, false, false, false] rfl rfl (any_of HT_.out (by kernel_rfl)) (fun _ _ _ h => h) (Or.inl ⟨by rfl, ?_⟩) ?_ ?_
 rotate_left
 ·intro w'
  go_simp
  with_reducible rfl
 rotate_left
 ·simp only [Act.put, List.setIfInBounds_toArray, List.set_cons_zero, List.set_cons_succ, i64_w]
  rfl
 refine pure_ (i := 5) (N := some 23) (v := ?_) (a' := ?_) #[true, true, true, true, true, true, false, false, false, false, false, false, false, false, false, false, false] rfl rfl (any_of HT_.out (by kernel_rfl)) (fun _ _ _ h => h) (Or.inl ⟨by rfl, ?_⟩) ?_ ?_
 rotate_left
 ·intro w'
  go_simp
  with_reducible rfl
 rotate_left
 ·simp only [Act.put, List.setIfInBounds_toArray, List.set_cons_zero, List.set_cons_succ, i64_w]
  rfl
 refine pure_ (i := 6) (N := some 24) (v := ?_) (a' := ?_) #[true, true, true, true, true, true, true, false, false, false, false, false, false, false, false, false, false] rfl rfl (any_of HT_.out (by kernel_rfl)) (fun _ _ _ h => h) (Or.inl ⟨by rfl, ?_⟩) ?_ ?_
 rotate_left
 ·intro w'
  go_simp
  with_reducible rfl
 rotate_left
 ·simp only [Act.put, List.setIfInBounds_toArray, List.set_cons_zero, List.set_cons_succ, i64_w]
  rfl
 refine take_ (i := 7) (N := some 25) (v := ?_) (a' := ?_) #[true, true, true, true, true, true, true, true, false, false, false, false, false, false, false, false, false] rfl rfl (take_ofW HT_.out HW_.out (by kernel_rfl)) (fun _ _ _ h => h) (Or.inl ⟨by rfl, ?_⟩) hHeld ?_ ?_
 rotate_left
 ·rintro w' ⟨s0, s1, s2, s3, s4, s5, s6, s7, s8, s9, s10, s11⟩
  go_simp
  with_reducible rfl
 rotate_left
 ·simp only [Act.put, List.setIfInBounds_toArray, List.set_cons_zero, List.set_cons_succ, i64_w]
  rfl
 refine pure_ (i := 8) (N := some 26) (v := ?_) (a' := ?_) #[true, true, true, true, true, true, true, true, true, false, false, false, false, false, false, false, false] rfl rfl (any_of HT_.out (by kernel_rfl)) (fun _ _ _ h => h) (Or.inl ⟨by rfl, ?_⟩) ?_ ?_
 rotate_left
 ·intro w'
  go_simp
  with_reducible rfl
 rotate_left
 ·simp only [Act.put, List.setIfInBounds_toArray, List.set_cons_zero, List.set_cons_succ, i64_w]
  rfl
 refine pure_ (i := 9) (N := some 27) (v := ?_) (a' := ?_) #[true, true, true, true, true, true, true, true, true, true, false, false, false, false, false, false, false] rfl rfl (any_of HT_.out (by kernel_rfl)) (fun _ _ _ h => h) (Or.inl ⟨by rfl, ?_⟩) ?_ ?_
 rotate_left
 ·intro w'
  go_simp
  with_reducible rfl
 rotate_left
 ·simp only [Act.put, List.setIfInBounds_toArray, List.set_cons_zero, List.set_cons_succ, i64_w]
  rfl
 refine pure_ (i := 10) (N := some 28) (v := ?_) (a' := ?_) #[true, true, true, true, true, true, true, true, true, true, true, false, false, false, false, false, false] rfl rfl (any_of HT_.out (by kernel_rfl)) (fun _ _ _ h => h) (Or.inl ⟨by rfl, ?_⟩) ?_ ?_
 rotate_left
 ·intro w'
  go_simp
  with_reducible rfl
 rotate_left
 ·simp only [Act.put, List.setIfInBounds_toArray, List.set_cons_zero, List.set_cons_succ, i64_w]
  rfl
 refine pure_ (i := 11) (N := some 29) (v := ?_) (a' := ?_) #[true, true, true, true, true, true, true, true, true, true, true, true, false, false, false, false, false] rfl rfl (any_of HT_.out (by kernel_rfl)) (fun _ _ _ h => h) (Or.inl ⟨by rfl, ?_⟩) ?_ ?_
 rotate_left
 ·intro w'
  go_simp
  with_reducible rfl
 rotate_left
 ·simp only [Act.put, List.setIfInBounds_toArray, List.set_cons_zero, List.set_cons_succ, i64_w]
  rfl
 refine take_ (i := 12) (N := some 30) (v := ?_) (a' := ?_) #[true, true, true, true, true, true, true, true, true, true, true, true, true, false, false, false, false] rfl rfl (take_ofW HT_.out HW_.out (by kernel_rfl)) (fun _ _ _ h => h) (Or.inl ⟨by rfl, ?_⟩) hHeld ?_ ?_
 rotate_left
 ·rintro w' ⟨s0, s1, s2, s3, s4, s5, s6, s7, s8, s9, s10, s11⟩
  go_simp
  with_reducible rfl
 rotate_left
 ·simp only [Act.put, List.setIfInBounds_toArray, List.set_cons_zero, List.set_cons_succ, i64_w]
  rfl
 refine pure_ (i := 13) (N := some 31) (v := ?_) (a' := ?_) #[true, true, true, true, true, true, true, true, true, true, true, true, true, true, false, false, false] rfl rfl (any_of HT_.out (by kernel_rfl)) (fun _ _ _ h => h) (Or.inl ⟨by rfl, ?_⟩) ?_ ?_
 rotate_left
 ·intro w'
  go_simp
  with_reducible rfl
 rotate_left
 ·simp only [Act.put, List.setIfInBounds_toArray, List.set_cons_zero, List.set_cons_succ, i64_w]
  rfl
 refine one_ (i := 14) (N := some 32) #[true, true, true, true, true, true, true, true, true, true, true, true, true, true, true, false, false] rfl rfl (one_of HT_.out (by kernel_rfl)) (by decide) (fun K hK => ?_)
 refine goes_ Tryd.func48 (by kernel_rfl) rfl #[.agg #[.slice T0 types.length tc], .int .i64 (k : Int), .string v] (by rfl) rfl rfl (by first | rfl | (simp [Act.eval]; done) | (go_simp; done) | simp [Act.eval, *]) ?_
 refine (attr_is T0 tc types k v W5 HED.out.htypes HED.out.htlen HKT.out).mono ?_
 rintro e W6 ⟨rfl, hb⟩
 have HE6 := am (HED.out.below hb)
 have HL6 := am (Kd.C_below HLD.out hb)
 have HB6 := am (below_step HBD.out hb)
 have BK6 := am (blk_below BKD.out hb)
 clear hb HED HLD HBD BKD
 refine ⟨_, rfl, ?_⟩
 refine hK.out _ _ (by obtain ⟨ad', e_, g0, g1, g2, g3, g4, g5, g6, g7, g8, g9, g10⟩ := at_T73 HL6.out j h0 h1; obtain rfl := Option.some.inj e_; rw [HK.out] at g2; exact ⟨(blk_cell HE6.out.hcells 0).trans rfl, g0, g1, g2, g3, g4, g5, g6, g7, g8, g9, g10⟩) (fun hHeld => ?_)
 clear hK K
 refine norm_ (a' := ?_) ?_ ?_
 rotate_left
 ·show Act.put _ (some 32) _ = _
  simp only [Act.put, List.setIfInBounds_toArray, List.set_cons_zero, List.set_cons_succ, i64_w]
  rfl
 refine one_ (i := 15) (N := some 33) #[true, true, true, true, true, true, true, true, true, true, true, true, true, true, true, true, false] rfl rfl (one_of HT_.out (by kernel_rfl)) (by decide) (fun K hK => ?_)
 refine goes_ Tryd.func49 (by kernel_rfl) rfl #[.agg #[.int .i64 (rd_T73 l j).f0, .int .u64 (rd_T73 l j).f1, .int .i64 (k : Int), .int .i64 (rd_T73 l j).f3, .int .i64 (rd_T73 l j).f4, .int .i64 (rd_T73 l j).f5, .int .i64 (rd_T73 l j).f6, .int .i64 (rd_T73 l j).f7, .int .i64 (rd_T73 l j).f8, .int .i64 (rd_T73 l j).f9, .int .i64 (rd_T73 l j).f10], .int .i64 (attrO types (k : Int) v)] (by rfl) rfl rfl (by first | rfl | (simp [Act.eval]; done) | (go_simp; done) | simp [Act.eval, *]) ?_
 refine (val_is (rd_T73 l j) k HK.out (attrO types (k : Int) v) W6).mono ?_
 rintro e W7 ⟨rfl, hb⟩
 have HE7 := am (HE6.out.below hb)
 have HL7 := am (Kd.C_below HL6.out hb)
 have HB7 := am (below_step HB6.out hb)
 have BK7 := am (blk_below BK6.out hb)
 clear hb HE6 HL6 HB6 BK6
 refine ⟨_, rfl, ?_⟩
 refine hK.out _ _ (by obtain ⟨ad', e_, g0, g1, g2, g3, g4, g5, g6, g7, g8, g9, g10⟩ := at_T73 HL7.out j h0 h1; obtain rfl := Option.some.inj e_; rw [HK.out] at g2; exact ⟨(blk_cell HE7.out.hcells 0).trans rfl, g0, g1, g2, g3, g4, g5, g6, g7, g8, g9, g10⟩) (fun hHeld => ?_)
 clear hK K
 refine norm_ (a' := ?_) ?_ ?_
 rotate_left
 ·show Act.put _ (some 33) _ = _
  simp only [Act.put, List.setIfInBounds_toArray, List.set_cons_zero, List.set_cons_succ, i64_w]
  rfl
 have c0 : W7.cell? ⟨g8, 0, none⟩ = some (.bool false) := (blk_cell BK7.out 0).trans rfl
 have c1 : W7.cell? ⟨g8, 1, none⟩ = some (.int .i64 0) := (blk_cell BK7.out 1).trans rfl
 have f0 := blk_frozen BK7.out 0
 have f1 := blk_frozen BK7.out 1
 refine last_ (i := 16) (N := none) #[true, true, true, true, true, true, true, true, true, true, true, true, true, true, true, true, true] rfl rfl (one_of HT_.out (by kernel_rfl)) (by decide) (fun K hK => ?_)
 refine skip_ (w1 := ?_) (by rfl) rfl ?_ ?_
 rotate_left
 ·go_simp
  rfl
 refine hK.out _ _ ?_
 clear hK K
 refine done_ (done_of HT_.out (by kernel_rfl)) ?_
 go_wp2
 refine bodyPost_ret (v := .agg #[.bool (valueV (rd_T73 l j) (attrO types (k : Int) v)).1, .int .i64 (valueV (rd_T73 l j) (attrO types (k : Int) v)).2]) (by simp [results, Tryd.results44, go_sem, *]) rfl ⟨rfl, ?_⟩
 exact below_set (below_set HB7.out GE_g8.out) GE_g8.out
set_option maxHeartbeats 8000000 in
set_option maxRecDepth 100000 in
theorem ev_attr (w : World) (ge : Nat) (T0 : Option Addr) (tc : Nat) (types : List S65) (A : Option Addr) (c : Nat) (t : List S61) (gi ci : Nat) (items : List Int) (AL : Option Addr) (cL : Nat) (L : List (List S73)) (each at_ : Int) (hE : EvP w ge T0 tc types A c t gi ci items AL cL L each at_) (j : Nat) (hj : j < t.length) (a0 a1 : Int) (a2 a3 : ByteArray) (a4 a5 : Int) (hn : (⟨a0, a1, a2, a3, a4, a5⟩ : S61) = rd_T61 t (j : Int)) (im : Int) (him : items.getD j 0 = im) (hth : (im == each) = false) (ha0 : a0 = 4) (k : Nat) (hll : (0 : Int) < (listV L im).length) (hkk : (rd_T73 (listV L im) 0).f2 = (k : Int)) (hkt : k < types.length) :
  Calls Tryd.prog 25 #[.pointer (some ⟨ge, 0, none⟩), .int .i64 (j : Int)] w fun e w' => e = .returned (.agg #[.bool (valueV (rd_T73 (listV L im) 0) (attrO types (k : Int) a3)).1, .int .i64 (valueV (rd_T73 (listV L im) 0) (attrO types (k : Int) a3)).2]) ∧ Below w.heap.size w w' := by
 have HE0 := am hE
 have HE_ := am hE
 have HB := am (Below.refl w.heap.size w)
 have HJ := am hj
 have HN := am hn
 have HIM := am him
 clear hE hn him
 have HLL := am hll
 have HKK := am hkk
 have HKT := am hkt
 clear hll hkk hkt
 subst ha0
 go_enter Tryd.func25, Tryd.ntmps25
 go_wp2_with (first | ((with_reducible refine gate_dst (N := 4) rfl ?_); refine box_event ?hg (N := 4) ?hd (cs := #[.bool false, .int .i64 0]) (t := 50) ?hr ?_; (case hd => rfl); (case hg => rfl); (case hr => first | (go_simp; done) | (go_simp; rfl)); intro g4 hg_ W1 hbox hb; have GE_g4 := ge1 hg_ HB; replace HB := bs HB hb; have BK_g4 := am hbox; have c_g4 := cf2 BK_g4; clear hb hbox hg_; (try clear HE_); have HE_ := am (HE0.out.below HB.out); have v1 : W1.cell? ⟨ge, 1, none⟩ = some (.slice A t.length c) := (blk_cell HE_.out.hcells 1).trans rfl; obtain ⟨ad, rfl, p0, p1, p2, p3, p4, p5⟩ := at_T61 HE_.out.htree (j : Int) (by omega) (by have := HJ.out; omega); rw [Int.toNat_natCast, ← HN.out] at p0 p1 p2 p3 p4 p5) | ((with_reducible refine gate_dst (N := 5) rfl ?_); refine box_event ?hg (N := 5) ?hd (cs := #[.int .i64 0, .int .i64 0, .string ByteArray.empty, .string ByteArray.empty, .int .i64 0, .int .i64 0]) (t := 61) ?hr ?_; (case hd => rfl); (case hg => rfl); (case hr => first | (go_simp; done) | (go_simp; rfl)); clear v1 p0 p1 p2 p3 p4 p5; intro g5 hg_ W2 hbox hb; have GE_g5 := ge1 hg_ HB; have NE_g5_g4 := ne1 hg_ BK_g4; have NE_g4_g5 := ne2 NE_g5_g4; replace HB := bs HB hb; (try clear c_g4); replace BK_g4 := bb BK_g4 hb; have c_g4 := cf2 BK_g4; have BK_g5 := am hbox; have c_g5 := cf6 BK_g5; clear hb hbox hg_; (try clear HE_); have HE_ := am (HE0.out.below HB.out)) | ((with_reducible refine gate_store (t := 61) (p := 5) rfl ?_); refine store_event (t := 61) (p := 5) (v := ?vo_W3_1) (w1 := ?w1_W3_2) ?hg ?ho ?hn ?hr ?_; (case ho => rfl); (case hg => rfl); (case hn => rfl); (case hr => first | (go_simp; done) | (go_simp; rfl)); intro W3 hw; have hk := kb6 hw; replace HB := sb6 HB GE_g5 hw; (try clear c_g4); replace BK_g4 := bk BK_g4 hk NE_g4_g5; have c_g4 := cf2 BK_g4; (try clear c_g5); replace BK_g5 := bp6 BK_g5 hw; have c_g5 := cf6 BK_g5; clear hk hw; (try clear HE_); have HE_ := am (HE0.out.below HB.out)))
 have v1 : W3.cell? ⟨ge, 1, none⟩ = some _ := (blk_cell HE_.out.hcells 1).trans rfl
 have v2 : W3.cell? ⟨ge, 2, none⟩ = some _ := (blk_cell HE_.out.hcells 2).trans rfl
 have v3 : W3.cell? ⟨ge, 3, none⟩ = some _ := (blk_cell HE_.out.hcells 3).trans rfl
 have v4 : W3.cell? ⟨ge, 4, none⟩ = some _ := (blk_cell HE_.out.hcells 4).trans rfl
 have v5 : W3.cell? ⟨ge, 5, none⟩ = some _ := (blk_cell HE_.out.hcells 5).trans rfl
 have i0 : W3.cell? ⟨gi, j, none⟩ = some (.int .i64 im) := by rw [← HIM.out]; exact int_c_at HE_.out.hitems j HJ.out
 clear c_g4 c_g5
 go_still_tail 11, (by kernel_rfl)
 clear v1 v2 v3 v4 v5 i0
 have hb : Below W3.heap.size W3 (W3.drew) := below_drew1 (Below.refl _ _)
 replace HB := bs HB hb
 (try clear c_g4)
 replace BK_g4 := bb BK_g4 hb
 have c_g4 := cf2 BK_g4
 (try clear c_g5)
 replace BK_g5 := bb BK_g5 hb
 have c_g5 := cf6 BK_g5
 (try clear HE_)
 have HE_ := am (HE0.out.below HB.out)
 clear hb
 clear c_g4 c_g5
 go_wp2_with (first | (go_at_call 31; refine (code_listOf _ _ L each at_ im _ HE_.out.hlists).mono ?_; rintro e W5 ⟨Al, cl, rfl, hcl_, hC_, hb⟩; have HCl := am hC_; replace HB := bs HB hb; (try clear c_g4); replace BK_g4 := bb BK_g4 hb; have c_g4 := cf2 BK_g4; (try clear c_g5); replace BK_g5 := bb BK_g5 hb; have c_g5 := cf6 BK_g5; (try clear HE_); have HE_ := am (HE0.out.below HB.out); clear hb hC_ hcl_))
 have v2 : W5.cell? ⟨ge, 2, none⟩ = some _ := (blk_cell HE_.out.hcells 2).trans rfl
 have v4 : W5.cell? ⟨ge, 4, none⟩ = some _ := (blk_cell HE_.out.hcells 4).trans rfl
 have i0 : W5.cell? ⟨gi, j, none⟩ = some (.int .i64 im) := by rw [← HIM.out]; exact int_c_at HE_.out.hitems j HJ.out
 go_quiet (fail)
 clear v2 v4 i0
 have hb : Below W5.heap.size W5 (W5.drewN nq) := pw_below_drewN (Below.refl _ _) nq
 replace HB := bs HB hb
 (try clear c_g4)
 replace BK_g4 := bb BK_g4 hb
 have c_g4 := cf2 BK_g4
 (try clear c_g5)
 replace BK_g5 := bb BK_g5 hb
 have c_g5 := cf6 BK_g5
 replace HCl := bC HCl hb
 (try clear HE_)
 have HE_ := am (HE0.out.below HB.out)
 clear hb
 go_wp2_with (first | (go_at_call 44; refine (ev_read _ ge _ _ types _ _ t _ _ items _ _ L each at_ HE_.out Al cl (listV L im) HCl.out 0 (Int.le_refl _) HLL.out a3 k HKK.out HKT.out).mono ?_; rintro e W7 ⟨rfl, hb⟩; replace HB := bs HB hb; (try clear c_g4); replace BK_g4 := bb BK_g4 hb; have c_g4 := cf2 BK_g4; (try clear c_g5); replace BK_g5 := bb BK_g5 hb; have c_g5 := cf6 BK_g5; replace HCl := bC HCl hb; clear hb; (try clear HE_); have HE_ := am (HE0.out.below HB.out)))
 refine bodyPost_ret (v := .agg #[.bool (valueV (rd_T73 (listV L im) 0) (attrO types (k : Int) a3)).1, .int .i64 (valueV (rd_T73 (listV L im) 0) (attrO types (k : Int) a3)).2]) (by simp [results, Tryd.results25, go_sem, *]) rfl ⟨rfl, ?_⟩
 exact below_set (below_set HB.out GE_g4.out) GE_g4.out
set_option maxHeartbeats 8000000 in
set_option maxRecDepth 100000 in
theorem ev_count (w : World) (ge : Nat) (T0 : Option Addr) (tc : Nat) (types : List S65) (A : Option Addr) (c : Nat) (t : List S61) (gi ci : Nat) (items : List Int) (AL : Option Addr) (cL : Nat) (L : List (List S73)) (each at_ : Int) (hE : EvP w ge T0 tc types A c t gi ci items AL cL L each at_) (j : Nat) (hj : j < t.length) (a0 a1 : Int) (a2 a3 : ByteArray) (a4 a5 : Int) (hn : (⟨a0, a1, a2, a3, a4, a5⟩ : S61) = rd_T61 t (j : Int)) (im : Int) (him : items.getD j 0 = im) (hth : (im == each) = false) (ha0 : a0 = 5) (hx : (listV L im).length ≤ 9223372036854775807) :
  Calls Tryd.prog 25 #[.pointer (some ⟨ge, 0, none⟩), .int .i64 (j : Int)] w fun e w' => e = .returned (.agg #[.bool ((true, ((listV L im).length : Int)) : Bool × Int).1, .int .i64 ((true, ((listV L im).length : Int)) : Bool × Int).2]) ∧ Below w.heap.size w w' := by
 have HE0 := am hE
 have HE_ := am hE
 have HB := am (Below.refl w.heap.size w)
 have HJ := am hj
 have HN := am hn
 have HIM := am him
 clear hE hn him
 have HX := am (show (listV L im).length ≤ 9223372036854775807 from hx)
 clear hx
 subst ha0
 go_enter Tryd.func25, Tryd.ntmps25
 go_wp2_with (first | ((with_reducible refine gate_dst (N := 4) rfl ?_); refine box_event ?hg (N := 4) ?hd (cs := #[.bool false, .int .i64 0]) (t := 50) ?hr ?_; (case hd => rfl); (case hg => rfl); (case hr => first | (go_simp; done) | (go_simp; rfl)); intro g4 hg_ W1 hbox hb; have GE_g4 := ge1 hg_ HB; replace HB := bs HB hb; have BK_g4 := am hbox; have c_g4 := cf2 BK_g4; clear hb hbox hg_; (try clear HE_); have HE_ := am (HE0.out.below HB.out); have v1 : W1.cell? ⟨ge, 1, none⟩ = some (.slice A t.length c) := (blk_cell HE_.out.hcells 1).trans rfl; obtain ⟨ad, rfl, p0, p1, p2, p3, p4, p5⟩ := at_T61 HE_.out.htree (j : Int) (by omega) (by have := HJ.out; omega); rw [Int.toNat_natCast, ← HN.out] at p0 p1 p2 p3 p4 p5) | ((with_reducible refine gate_dst (N := 5) rfl ?_); refine box_event ?hg (N := 5) ?hd (cs := #[.int .i64 0, .int .i64 0, .string ByteArray.empty, .string ByteArray.empty, .int .i64 0, .int .i64 0]) (t := 61) ?hr ?_; (case hd => rfl); (case hg => rfl); (case hr => first | (go_simp; done) | (go_simp; rfl)); clear v1 p0 p1 p2 p3 p4 p5; intro g5 hg_ W2 hbox hb; have GE_g5 := ge1 hg_ HB; have NE_g5_g4 := ne1 hg_ BK_g4; have NE_g4_g5 := ne2 NE_g5_g4; replace HB := bs HB hb; (try clear c_g4); replace BK_g4 := bb BK_g4 hb; have c_g4 := cf2 BK_g4; have BK_g5 := am hbox; have c_g5 := cf6 BK_g5; clear hb hbox hg_; (try clear HE_); have HE_ := am (HE0.out.below HB.out)) | ((with_reducible refine gate_store (t := 61) (p := 5) rfl ?_); refine store_event (t := 61) (p := 5) (v := ?vo_W3_3) (w1 := ?w1_W3_4) ?hg ?ho ?hn ?hr ?_; (case ho => rfl); (case hg => rfl); (case hn => rfl); (case hr => first | (go_simp; done) | (go_simp; rfl)); intro W3 hw; have hk := kb6 hw; replace HB := sb6 HB GE_g5 hw; (try clear c_g4); replace BK_g4 := bk BK_g4 hk NE_g4_g5; have c_g4 := cf2 BK_g4; (try clear c_g5); replace BK_g5 := bp6 BK_g5 hw; have c_g5 := cf6 BK_g5; clear hk hw; (try clear HE_); have HE_ := am (HE0.out.below HB.out)))
 have v1 : W3.cell? ⟨ge, 1, none⟩ = some _ := (blk_cell HE_.out.hcells 1).trans rfl
 have v2 : W3.cell? ⟨ge, 2, none⟩ = some _ := (blk_cell HE_.out.hcells 2).trans rfl
 have v3 : W3.cell? ⟨ge, 3, none⟩ = some _ := (blk_cell HE_.out.hcells 3).trans rfl
 have v4 : W3.cell? ⟨ge, 4, none⟩ = some _ := (blk_cell HE_.out.hcells 4).trans rfl
 have v5 : W3.cell? ⟨ge, 5, none⟩ = some _ := (blk_cell HE_.out.hcells 5).trans rfl
 have i0 : W3.cell? ⟨gi, j, none⟩ = some (.int .i64 im) := by rw [← HIM.out]; exact int_c_at HE_.out.hitems j HJ.out
 clear c_g4 c_g5
 go_still_tail 11, (by kernel_rfl)
 clear v1 v2 v3 v4 v5 i0
 have hb : Below W3.heap.size W3 (W3.drew) := below_drew1 (Below.refl _ _)
 replace HB := bs HB hb
 (try clear c_g4)
 replace BK_g4 := bb BK_g4 hb
 have c_g4 := cf2 BK_g4
 (try clear c_g5)
 replace BK_g5 := bb BK_g5 hb
 have c_g5 := cf6 BK_g5
 (try clear HE_)
 have HE_ := am (HE0.out.below HB.out)
 clear hb
 clear c_g4 c_g5
 go_wp2_with (first | (go_at_call 31; refine (code_listOf _ _ L each at_ im _ HE_.out.hlists).mono ?_; rintro e W5 ⟨Al, cl, rfl, hcl_, hC_, hb⟩; have HCl := am hC_; replace HB := bs HB hb; (try clear c_g4); replace BK_g4 := bb BK_g4 hb; have c_g4 := cf2 BK_g4; (try clear c_g5); replace BK_g5 := bb BK_g5 hb; have c_g5 := cf6 BK_g5; (try clear HE_); have HE_ := am (HE0.out.below HB.out); clear hb hC_ hcl_))
 have v2 : W5.cell? ⟨ge, 2, none⟩ = some _ := (blk_cell HE_.out.hcells 2).trans rfl
 have v4 : W5.cell? ⟨ge, 4, none⟩ = some _ := (blk_cell HE_.out.hcells 4).trans rfl
 have i0 : W5.cell? ⟨gi, j, none⟩ = some (.int .i64 im) := by rw [← HIM.out]; exact int_c_at HE_.out.hitems j HJ.out
 go_quiet (fail)
 clear v2 v4 i0
 have hb : Below W5.heap.size W5 (W5.drewN nq) := pw_below_drewN (Below.refl _ _) nq
 replace HB := bs HB hb
 (try clear c_g4)
 replace BK_g4 := bb BK_g4 hb
 have c_g4 := cf2 BK_g4
 (try clear c_g5)
 replace BK_g5 := bb BK_g5 hb
 have c_g5 := cf6 BK_g5
 replace HCl := bC HCl hb
 (try clear HE_)
 have HE_ := am (HE0.out.below HB.out)
 clear hb
 go_wp2
 refine bodyPost_ret (v := .agg #[.bool true, .int .i64 ((listV L im).length : Int)]) (by simp [results, Tryd.results25, go_sem, *]) rfl ⟨rfl, ?_⟩
 exact below_set (below_set HB.out GE_g4.out) GE_g4.out
set_option maxHeartbeats 8000000 in
set_option maxRecDepth 100000 in
theorem ev_sub (w : World) (ge : Nat) (T0 : Option Addr) (tc : Nat) (types : List S65) (A : Option Addr) (c : Nat) (t : List S61) (gi ci : Nat) (items : List Int) (AL : Option Addr) (cL : Nat) (L : List (List S73)) (each at_ : Int) (hE : EvP w ge T0 tc types A c t gi ci items AL cL L each at_) (j : Nat) (hj : j < t.length) (a0 a1 : Int) (a2 a3 : ByteArray) (a4 a5 : Int) (hn : (⟨a0, a1, a2, a3, a4, a5⟩ : S61) = rd_T61 t (j : Int)) (im : Int) (him : items.getD j 0 = im) (hth : (im == each) = false) (ha0 : a0 = 15) (na nb : Nat) (ha4 : a4 = (na : Int)) (ha5 : a5 = (nb : Int)) (x y : Bool × Int) (hca : (∀ w1, EvP w1 ge T0 tc types A c t gi ci items AL cL L each at_ → Calls Tryd.prog 25 #[.pointer (some ⟨ge, 0, none⟩), .int .i64 (na : Int)] w1 fun e w' => e = .returned (.agg #[.bool x.1, .int .i64 x.2]) ∧ Below w1.heap.size w1 w')) (hcb : (∀ w1, EvP w1 ge T0 tc types A c t gi ci items AL cL L each at_ → Calls Tryd.prog 25 #[.pointer (some ⟨ge, 0, none⟩), .int .i64 (nb : Int)] w1 fun e w' => e = .returned (.agg #[.bool y.1, .int .i64 y.2]) ∧ Below w1.heap.size w1 w')) :
  Calls Tryd.prog 25 #[.pointer (some ⟨ge, 0, none⟩), .int .i64 (j : Int)] w fun e w' => e = .returned (.agg #[.bool (applyV 15 x.1 x.2 y.1 y.2).1, .int .i64 (applyV 15 x.1 x.2 y.1 y.2).2]) ∧ Below w.heap.size w w' := by
 have HE0 := am hE
 have HE_ := am hE
 have HB := am (Below.refl w.heap.size w)
 have HJ := am hj
 have HN := am hn
 have HIM := am him
 clear hE hn him
 have HCA := am hca
 have HCB := am hcb
 clear hca hcb
 subst ha0
 obtain rfl := ha4
 obtain rfl := ha5
 go_enter Tryd.func25, Tryd.ntmps25
 go_wp2_with (first | ((with_reducible refine gate_dst (N := 4) rfl ?_); refine box_event ?hg (N := 4) ?hd (cs := #[.bool false, .int .i64 0]) (t := 50) ?hr ?_; (case hd => rfl); (case hg => rfl); (case hr => first | (go_simp; done) | (go_simp; rfl)); intro g4 hg_ W1 hbox hb; have GE_g4 := ge1 hg_ HB; replace HB := bs HB hb; have BK_g4 := am hbox; have c_g4 := cf2 BK_g4; clear hb hbox hg_; (try clear HE_); have HE_ := am (HE0.out.below HB.out); have v1 : W1.cell? ⟨ge, 1, none⟩ = some (.slice A t.length c) := (blk_cell HE_.out.hcells 1).trans rfl; obtain ⟨ad, rfl, p0, p1, p2, p3, p4, p5⟩ := at_T61 HE_.out.htree (j : Int) (by omega) (by have := HJ.out; omega); rw [Int.toNat_natCast, ← HN.out] at p0 p1 p2 p3 p4 p5) | ((with_reducible refine gate_dst (N := 5) rfl ?_); refine box_event ?hg (N := 5) ?hd (cs := #[.int .i64 0, .int .i64 0, .string ByteArray.empty, .string ByteArray.empty, .int .i64 0, .int .i64 0]) (t := 61) ?hr ?_; (case hd => rfl); (case hg => rfl); (case hr => first | (go_simp; done) | (go_simp; rfl)); clear v1 p0 p1 p2 p3 p4 p5; intro g5 hg_ W2 hbox hb; have GE_g5 := ge1 hg_ HB; have NE_g5_g4 := ne1 hg_ BK_g4; have NE_g4_g5 := ne2 NE_g5_g4; replace HB := bs HB hb; (try clear c_g4); replace BK_g4 := bb BK_g4 hb; have c_g4 := cf2 BK_g4; have BK_g5 := am hbox; have c_g5 := cf6 BK_g5; clear hb hbox hg_; (try clear HE_); have HE_ := am (HE0.out.below HB.out)) | ((with_reducible refine gate_store (t := 61) (p := 5) rfl ?_); refine store_event (t := 61) (p := 5) (v := ?vo_W3_5) (w1 := ?w1_W3_6) ?hg ?ho ?hn ?hr ?_; (case ho => rfl); (case hg => rfl); (case hn => rfl); (case hr => first | (go_simp; done) | (go_simp; rfl)); intro W3 hw; have hk := kb6 hw; replace HB := sb6 HB GE_g5 hw; (try clear c_g4); replace BK_g4 := bk BK_g4 hk NE_g4_g5; have c_g4 := cf2 BK_g4; (try clear c_g5); replace BK_g5 := bp6 BK_g5 hw; have c_g5 := cf6 BK_g5; clear hk hw; (try clear HE_); have HE_ := am (HE0.out.below HB.out)))
 have v1 : W3.cell? ⟨ge, 1, none⟩ = some _ := (blk_cell HE_.out.hcells 1).trans rfl
 have v2 : W3.cell? ⟨ge, 2, none⟩ = some _ := (blk_cell HE_.out.hcells 2).trans rfl
 have v3 : W3.cell? ⟨ge, 3, none⟩ = some _ := (blk_cell HE_.out.hcells 3).trans rfl
 have v4 : W3.cell? ⟨ge, 4, none⟩ = some _ := (blk_cell HE_.out.hcells 4).trans rfl
 have v5 : W3.cell? ⟨ge, 5, none⟩ = some _ := (blk_cell HE_.out.hcells 5).trans rfl
 have i0 : W3.cell? ⟨gi, j, none⟩ = some (.int .i64 im) := by rw [← HIM.out]; exact int_c_at HE_.out.hitems j HJ.out
 clear c_g4 c_g5
 go_still_tail 11, (by kernel_rfl)
 clear v1 v2 v3 v4 v5 i0
 have hb : Below W3.heap.size W3 (W3.drew) := below_drew1 (Below.refl _ _)
 replace HB := bs HB hb
 (try clear c_g4)
 replace BK_g4 := bb BK_g4 hb
 have c_g4 := cf2 BK_g4
 (try clear c_g5)
 replace BK_g5 := bb BK_g5 hb
 have c_g5 := cf6 BK_g5
 (try clear HE_)
 have HE_ := am (HE0.out.below HB.out)
 clear hb
 clear c_g4 c_g5
 go_wp2_with (first | (go_at_call 31; refine (code_listOf _ _ L each at_ im _ HE_.out.hlists).mono ?_; rintro e W5 ⟨Al, cl, rfl, hcl_, hC_, hb⟩; have HCl := am hC_; replace HB := bs HB hb; (try clear c_g4); replace BK_g4 := bb BK_g4 hb; have c_g4 := cf2 BK_g4; (try clear c_g5); replace BK_g5 := bb BK_g5 hb; have c_g5 := cf6 BK_g5; (try clear HE_); have HE_ := am (HE0.out.below HB.out); clear hb hC_ hcl_))
 have v2 : W5.cell? ⟨ge, 2, none⟩ = some _ := (blk_cell HE_.out.hcells 2).trans rfl
 have v4 : W5.cell? ⟨ge, 4, none⟩ = some _ := (blk_cell HE_.out.hcells 4).trans rfl
 have i0 : W5.cell? ⟨gi, j, none⟩ = some (.int .i64 im) := by rw [← HIM.out]; exact int_c_at HE_.out.hitems j HJ.out
 go_quiet (fail)
 clear v2 v4 i0
 have hb : Below W5.heap.size W5 (W5.drewN nq) := pw_below_drewN (Below.refl _ _) nq
 replace HB := bs HB hb
 (try clear c_g4)
 replace BK_g4 := bb BK_g4 hb
 have c_g4 := cf2 BK_g4
 (try clear c_g5)
 replace BK_g5 := bb BK_g5 hb
 have c_g5 := cf6 BK_g5
 replace HCl := bC HCl hb
 (try clear HE_)
 have HE_ := am (HE0.out.below HB.out)
 clear hb
 go_wp2
 refine start_ (n := 12) (S := fun w' => w'.cell? ⟨g5, 0, none⟩ = some (.int .i64 15) ∧ w'.cell? ⟨g5, 4, none⟩ = some (.int .i64 (na : Int)) ∧ w'.cell? ⟨g5, 5, none⟩ = some (.int .i64 (nb : Int))) (ds := [11]) #[false, false, false, false, false, false, false, false, false, false, false, false] (by kernel_rfl) rfl rfl ⟨(blk_cell BK_g5.out 0).trans rfl, (blk_cell BK_g5.out 4).trans rfl, (blk_cell BK_g5.out 5).trans rfl⟩ (fun hHeld => ?_)
 refine with_tabW ev_r.tab ev_r.bits (fun HT_ HW_ => ?_)
 clear c_g4 c_g5
 clear HE_
 have HB3 := am (below_drew1 HB.out)
 have B43 := am (blk_drew BK_g4.out)
 have B53 := am (blk_drew BK_g5.out)
 clear HB BK_g4 BK_g5
 generalize ((W5.drewN nq)).drew = W30 at hHeld HB3 B43 B53 ⊢
 refine pure_ (i := 0) (N := some 147) (v := ?_) (a' := ?_) #[true, false, false, false, false, false, false, false, false, false, false, false] rfl rfl (any_of HT_.out (by kernel_rfl)) (fun _ _ _ h => h) (Or.inl ⟨by rfl, ?_⟩) ?_ ?_
 rotate_left
 ·intro w'
  go_simp
  with_reducible rfl
 rotate_left
 ·simp only [Act.put, List.setIfInBounds_toArray, List.set_cons_zero, List.set_cons_succ, i64_w]
  rfl
 refine take_ (i := 1) (N := some 148) (v := ?_) (a' := ?_) #[true, true, false, false, false, false, false, false, false, false, false, false] rfl rfl (take_ofW HT_.out HW_.out (by kernel_rfl)) (fun _ _ _ h => h) (Or.inl ⟨by rfl, ?_⟩) hHeld ?_ ?_
 rotate_left
 ·rintro w' ⟨s0, s1, s2⟩
  go_simp
  with_reducible rfl
 rotate_left
 ·simp only [Act.put, List.setIfInBounds_toArray, List.set_cons_zero, List.set_cons_succ, i64_w]
  rfl
 refine pure_ (i := 2) (N := some 149) (v := ?_) (a' := ?_) #[true, true, true, false, false, false, false, false, false, false, false, false] rfl rfl (any_of HT_.out (by kernel_rfl)) (fun _ _ _ h => h) (Or.inl ⟨by rfl, ?_⟩) ?_ ?_
 rotate_left
 ·intro w'
  go_simp
  with_reducible rfl
 rotate_left
 ·simp only [Act.put, List.setIfInBounds_toArray, List.set_cons_zero, List.set_cons_succ, i64_w]
  rfl
 refine pure_ (i := 3) (N := some 150) (v := ?_) (a' := ?_) #[true, true, true, true, false, false, false, false, false, false, false, false] rfl rfl (any_of HT_.out (by kernel_rfl)) (fun _ _ _ h => h) (Or.inl ⟨by rfl, ?_⟩) ?_ ?_
 rotate_left
 ·intro w'
  go_simp
  with_reducible rfl
 rotate_left
 ·simp only [Act.put, List.setIfInBounds_toArray, List.set_cons_zero, List.set_cons_succ, i64_w]
  rfl
 refine take_ (i := 4) (N := some 151) (v := ?_) (a' := ?_) #[true, true, true, true, true, false, false, false, false, false, false, false] rfl rfl (take_ofW HT_.out HW_.out (by kernel_rfl)) (fun _ _ _ h => h) (Or.inl ⟨by rfl, ?_⟩) hHeld ?_ ?_
 rotate_left
 ·rintro w' ⟨s0, s1, s2⟩
  go_simp
  with_reducible rfl
 rotate_left
 ·simp only [Act.put, List.setIfInBounds_toArray, List.set_cons_zero, List.set_cons_succ, i64_w]
  rfl
 refine pure_ (i := 6) (N := some 153) (v := ?_) (a' := ?_) #[true, true, true, true, true, false, true, false, false, false, false, false] rfl rfl (any_of HT_.out (by kernel_rfl)) (fun _ _ _ h => h) (Or.inl ⟨by rfl, ?_⟩) ?_ ?_
 rotate_left
 ·intro w'
  go_simp
  with_reducible rfl
 rotate_left
 ·simp only [Act.put, List.setIfInBounds_toArray, List.set_cons_zero, List.set_cons_succ, i64_w]
  rfl
 refine pure_ (i := 7) (N := some 154) (v := ?_) (a' := ?_) #[true, true, true, true, true, false, true, true, false, false, false, false] rfl rfl (any_of HT_.out (by kernel_rfl)) (fun _ _ _ h => h) (Or.inl ⟨by rfl, ?_⟩) ?_ ?_
 rotate_left
 ·intro w'
  go_simp
  with_reducible rfl
 rotate_left
 ·simp only [Act.put, List.setIfInBounds_toArray, List.set_cons_zero, List.set_cons_succ, i64_w]
  rfl
 refine take_ (i := 8) (N := some 155) (v := ?_) (a' := ?_) #[true, true, true, true, true, false, true, true, true, false, false, false] rfl rfl (take_ofW HT_.out HW_.out (by kernel_rfl)) (fun _ _ _ h => h) (Or.inl ⟨by rfl, ?_⟩) hHeld ?_ ?_
 rotate_left
 ·rintro w' ⟨s0, s1, s2⟩
  go_simp
  with_reducible rfl
 rotate_left
 ·simp only [Act.put, List.setIfInBounds_toArray, List.set_cons_zero, List.set_cons_succ, i64_w]
  rfl
 refine one_ (i := 5) (N := some 152) #[true, true, true, true, true, true, true, true, true, false, false, false] rfl rfl (one_of HT_.out (by kernel_rfl)) (by decide) (fun K hK => ?_)
 refine goes_ Tryd.func25 (by kernel_rfl) rfl #[.pointer (some ⟨ge, 0, none⟩), .int .i64 (na : Int)] (by rfl) rfl rfl (by first | rfl | (simp [Act.eval]; done) | (go_simp; done) | simp [Act.eval, *]) ?_
 refine (HCA.out W30 (HE0.out.below HB3.out)).mono ?_
 rintro e W40 ⟨rfl, hb⟩
 have HB4 := am (below_step HB3.out hb)
 have B44 := am (blk_below B43.out hb)
 have B54 := am (blk_below B53.out hb)
 clear hb HB3 B43 B53
 refine ⟨_, rfl, ?_⟩
 refine hK.out _ _ ⟨(blk_cell B54.out 0).trans rfl, (blk_cell B54.out 4).trans rfl, (blk_cell B54.out 5).trans rfl⟩ (fun hHeld => ?_)
 clear hK K
 refine norm_ (a' := ?_) ?_ ?_
 rotate_left
 ·show Act.put _ (some 152) _ = _
  simp only [Act.put, List.setIfInBounds_toArray, List.set_cons_zero, List.set_cons_succ, i64_w]
  rfl
 refine one_ (i := 9) (N := some 156) #[true, true, true, true, true, true, true, true, true, true, false, false] rfl rfl (one_of HT_.out (by kernel_rfl)) (by decide) (fun K hK => ?_)
 refine goes_ Tryd.func25 (by kernel_rfl) rfl #[.pointer (some ⟨ge, 0, none⟩), .int .i64 (nb : Int)] (by rfl) rfl rfl (by first | rfl | (simp [Act.eval]; done) | (go_simp; done) | simp [Act.eval, *]) ?_
 refine (HCB.out W40 (HE0.out.below HB4.out)).mono ?_
 rintro e W50 ⟨rfl, hb⟩
 have HB5 := am (below_step HB4.out hb)
 have B45 := am (blk_below B44.out hb)
 have B55 := am (blk_below B54.out hb)
 clear hb HB4 B44 B54
 refine ⟨_, rfl, ?_⟩
 refine hK.out _ _ ⟨(blk_cell B55.out 0).trans rfl, (blk_cell B55.out 4).trans rfl, (blk_cell B55.out 5).trans rfl⟩ (fun hHeld => ?_)
 clear hK K
 refine norm_ (a' := ?_) ?_ ?_
 rotate_left
 ·show Act.put _ (some 156) _ = _
  simp only [Act.put, List.setIfInBounds_toArray, List.set_cons_zero, List.set_cons_succ, i64_w]
  rfl
 refine one_ (i := 10) (N := some 157) #[true, true, true, true, true, true, true, true, true, true, true, false] rfl rfl (one_of HT_.out (by kernel_rfl)) (by decide) (fun K hK => ?_)
 refine goes_ Tryd.func24 (by kernel_rfl) rfl #[.int .i64 15, .agg #[.bool x.1, .int .i64 x.2], .agg #[.bool y.1, .int .i64 y.2]] (by rfl) rfl rfl (by first | rfl | (simp [Act.eval]; done) | (go_simp; done) | simp [Act.eval, *]) ?_
 refine (num_Apply 15 x.1 x.2 y.1 y.2 W50 (HE0.out.below HB5.out).hglob).mono ?_
 rintro e W60 ⟨rfl, hb⟩
 have HB6 := am (below_step HB5.out hb)
 have B46 := am (blk_below B45.out hb)
 have B56 := am (blk_below B55.out hb)
 clear hb HB5 B45 B55
 refine ⟨_, rfl, ?_⟩
 refine hK.out _ _ ⟨(blk_cell B56.out 0).trans rfl, (blk_cell B56.out 4).trans rfl, (blk_cell B56.out 5).trans rfl⟩ (fun hHeld => ?_)
 clear hK K
 refine norm_ (a' := ?_) ?_ ?_
 rotate_left
 ·show Act.put _ (some 157) _ = _
  simp only [Act.put, List.setIfInBounds_toArray, List.set_cons_zero, List.set_cons_succ, i64_w]
  rfl
 have c0 : W60.cell? ⟨g4, 0, none⟩ = some (.bool false) := (blk_cell B46.out 0).trans rfl
 have c1 : W60.cell? ⟨g4, 1, none⟩ = some (.int .i64 0) := (blk_cell B46.out 1).trans rfl
 have f0 := blk_frozen B46.out 0
 have f1 := blk_frozen B46.out 1
 refine last_ (i := 11) (N := none) #[true, true, true, true, true, true, true, true, true, true, true, true] rfl rfl (one_of HT_.out (by kernel_rfl)) (by decide) (fun K hK => ?_)
 refine skip_ (w1 := ?_) (by rfl) rfl ?_ ?_
 rotate_left
 ·go_simp
  rfl
 refine hK.out _ _ ?_
 clear hK K
 refine done_ (done_of HT_.out (by kernel_rfl)) ?_
 go_wp2
 refine bodyPost_ret (v := .agg #[.bool (applyV 15 x.1 x.2 y.1 y.2).1, .int .i64 (applyV 15 x.1 x.2 y.1 y.2).2]) (by simp [results, Tryd.results25, go_sem, *]) rfl ⟨rfl, ?_⟩
 exact below_set (below_set HB6.out GE_g4.out) GE_g4.out
end Go.Proofs.YtbhpjpeknooppaaDoor.M
namespace Go.Proofs.YtbhpjpeknooppaaDoor.M
open Go.RowKit Go.Proofs.YtbhpjpeknooppaaDoorW.PrintWords Go.Proofs.YtbhpjpeknooppaaDoorW.PrintLast Go.Proofs.YtbhpjpeknooppaaDoorW.PrintMore
open Go.Proofs.YtbhpjpeknooppaaDoor.PCodeSpares
set_option linter.unusedVariables false
set_option linter.unusedSimpArgs false
set_option maxHeartbeats 8000000 in
set_option maxRecDepth 100000 in
theorem code_Eval (w : World) (G : Glob w) (GK : GlobK w) (T0 : Option Addr) (tc : Nat) (types : List S65) (hty : Kd.C k65 w T0 types.length types) (htc : types.length ≤ tc) (Q0 : Option Addr) (c0 : Nat) (its : List S67) (q1 q2 : Int) (Q3 : Option Addr) (c3 : Nat) (wh : List S61) (q4 : Int) (q5 : ByteArray) (Q6 : Option Addr) (c6 : Nat) (ret : List (List S61)) (hq : QReads w Q0 c0 its q1 q2 Q3 c3 wh q4 q5 Q6 c6 ret) (A : Option Addr) (c : Nat) (t : List S61) (ht : Kd.C k61 w A t.length t) (hsz : t.length ≤ 4398046511104)
  (AL : Option Addr) (cL : Nat) (L : List (List S73)) (each at_ : Int) (hL : Kd.C (Kd.slice 73 k73) w AL L.length L) (hr : rnbV its t = true) (x : Bool × Int)
  (hnode : ∀ (w1 : World) (ge gi ci : Nat), EvP w1 ge T0 tc types A c t gi ci (itemsV its t) AL cL L each at_ → Calls Tryd.prog 25 #[.pointer (some ⟨ge, 0, none⟩), .int .i64 ((t.length : Int) - 1)] w1 fun e w' => e = .returned (.agg #[.bool x.1, .int .i64 x.2]) ∧ Below w1.heap.size w1 w') :
  Calls Tryd.prog 16 #[.agg #[.slice T0 types.length tc], .agg #[.slice Q0 its.length c0, .int .i64 q1, .int .i64 q2, .slice Q3 wh.length c3, .int .i64 q4, .string q5, .slice Q6 ret.length c6], .slice A t.length c, .agg #[.slice AL L.length cL, .int .i64 each, .int .i64 at_]] w fun e w' => e = .returned (.agg #[.bool x.1, .int .i64 x.2]) ∧ Below w.heap.size w w' := by
 have HG := am G
 have HGK := am GK
 have HTY := am hty
 have HTC := am htc
 have HQ := am hq
 have HP := am ht
 have HS := am hsz
 have HL := am hL
 have hr_ := am hr
 have HND := am hnode
 have HB := am (Below.refl w.heap.size w)
 have hpos := am (treeV_pos (rnbV_tree hr))
 have eT : wrap64 ((t.length : Int) - 1) = (t.length : Int) - 1 := IntWalk.wrap64_in _ (by omega)
 clear G GK hty htc hq ht hsz hL hr hnode
 go_enter Tryd.func16, Tryd.ntmps16
 go_wp2_with (first | ((with_reducible refine gate_dst (N := 4) rfl ?_); refine box_event ?hg (N := 4) ?hd (cs := #[.slice T0 types.length tc]) (t := 24) ?hr ?_; (case hd => rfl); (case hg => rfl); (case hr => first | (go_simp; done) | (go_simp; rfl)); intro g4 hg_ W1 hbox hb; have GE_g4 := ge1 hg_ HB; replace HB := bs HB hb; have BK_g4 := am hbox; have c_g4 := cf1 BK_g4; clear hb hbox hg_) | ((with_reducible refine gate_dst (N := 5) rfl ?_); refine box_event ?hg (N := 5) ?hd (cs := #[.slice Q0 its.length c0, .int .i64 q1, .int .i64 q2, .slice Q3 wh.length c3, .int .i64 q4, .string q5, .slice Q6 ret.length c6]) (t := 31) ?hr ?_; (case hd => rfl); (case hg => rfl); (case hr => first | (go_simp; done) | (go_simp; rfl)); intro g5 hg_ W2 hbox hb; have GE_g5 := ge1 hg_ HB; have NE_g5_g4 := ne1 hg_ BK_g4; have NE_g4_g5 := ne2 NE_g5_g4; replace HB := bs HB hb; (try clear c_g4); replace BK_g4 := bb BK_g4 hb; have c_g4 := cf1 BK_g4; have BK_g5 := am hbox; have c_g5 := cf7 BK_g5; clear hb hbox hg_) | ((with_reducible refine gate_dst (N := 7) rfl ?_); refine box_event ?hg (N := 7) ?hd (cs := #[.slice AL L.length cL, .int .i64 each, .int .i64 at_]) (t := 34) ?hr ?_; (case hd => rfl); (case hg => rfl); (case hr => first | (go_simp; done) | (go_simp; rfl)); intro g7 hg_ W3 hbox hb; have GE_g7 := ge1 hg_ HB; have NE_g7_g4 := ne1 hg_ BK_g4; have NE_g4_g7 := ne2 NE_g7_g4; have NE_g7_g5 := ne1 hg_ BK_g5; have NE_g5_g7 := ne2 NE_g7_g5; replace HB := bs HB hb; (try clear c_g4); replace BK_g4 := bb BK_g4 hb; have c_g4 := cf1 BK_g4; (try clear c_g5); replace BK_g5 := bb BK_g5 hb; have c_g5 := cf7 BK_g5; have BK_g7 := am hbox; have c_g7 := cf3 BK_g7; clear hb hbox hg_) | ((with_reducible refine gate_dst (N := 8) rfl ?_); refine box_event ?hg (N := 8) ?hd (cs := #[.bool false, .int .i64 0]) (t := 50) ?hr ?_; (case hd => rfl); (case hg => rfl); (case hr => first | (go_simp; done) | (go_simp; rfl)); intro g8 hg_ W4 hbox hb; have GE_g8 := ge1 hg_ HB; have NE_g8_g4 := ne1 hg_ BK_g4; have NE_g4_g8 := ne2 NE_g8_g4; have NE_g8_g5 := ne1 hg_ BK_g5; have NE_g5_g8 := ne2 NE_g8_g5; have NE_g8_g7 := ne1 hg_ BK_g7; have NE_g7_g8 := ne2 NE_g8_g7; replace HB := bs HB hb; (try clear c_g4); replace BK_g4 := bb BK_g4 hb; have c_g4 := cf1 BK_g4; (try clear c_g5); replace BK_g5 := bb BK_g5 hb; have c_g5 := cf7 BK_g5; (try clear c_g7); replace BK_g7 := bb BK_g7 hb; have c_g7 := cf3 BK_g7; have BK_g8 := am hbox; have c_g8 := cf2 BK_g8; clear hb hbox hg_) | (go_at_call 18; refine (code_runnable Q0 c0 its q1 q2 Q3 c3 wh q4 q5 Q6 c6 ret A c t _ (HGK.out.below HB.out) (HQ.out.below HB.out) (Kd.C_below HP.out HB.out) HS.out).mono ?_; rintro e W5 ⟨vi, xi, rfl, hro_, hrx_, hb⟩; rw [hr_.out]; have hxi_ := hrx_ hr_.out; subst hxi_; obtain ⟨gi, ci, rfl, _⟩ := Kd.R_form hro_ (by simp only [itemsV, List.length_map]; exact hpos.out); have hli_ : (itemsV its t).length = t.length := List.length_map _; rw [hli_] at hro_ ⊢; have HI := am (by have h_ := (Kd.R_reads' hro_).2.2; rw [hli_] at h_; exact h_ : Kd.C (Kd.int .i64) W5 (some ⟨gi, 0, none⟩) t.length (itemsV its t)); clear hli_ hrx_; replace HB := bs HB hb; (try clear c_g4); replace BK_g4 := bb BK_g4 hb; have c_g4 := cf1 BK_g4; (try clear c_g5); replace BK_g5 := bb BK_g5 hb; have c_g5 := cf7 BK_g5; (try clear c_g7); replace BK_g7 := bb BK_g7 hb; have c_g7 := cf3 BK_g7; (try clear c_g8); replace BK_g8 := bb BK_g8 hb; have c_g8 := cf2 BK_g8; clear hb hro_) | ((with_reducible refine gate_dst (N := 26) rfl ?_); refine box_event ?hg (N := 26) ?hd (cs := #[.slice T0 types.length tc, .slice A t.length c, .slice (some ⟨gi, 0, none⟩) t.length ci, .slice AL L.length cL, .int .i64 each, .int .i64 at_]) (t := 92) ?hr ?_; (case hd => rfl); (case hg => rfl); (case hr => first | (go_simp; done) | (go_simp; rfl)); intro ge hg_ W6 hbox hb; have GE_ge := ge1 hg_ HB; have NE_ge_g4 := ne1 hg_ BK_g4; have NE_g4_ge := ne2 NE_ge_g4; have NE_ge_g5 := ne1 hg_ BK_g5; have NE_g5_ge := ne2 NE_ge_g5; have NE_ge_g7 := ne1 hg_ BK_g7; have NE_g7_ge := ne2 NE_ge_g7; have NE_ge_g8 := ne1 hg_ BK_g8; have NE_g8_ge := ne2 NE_ge_g8; replace HB := bs HB hb; (try clear c_g4); replace BK_g4 := bb BK_g4 hb; have c_g4 := cf1 BK_g4; (try clear c_g5); replace BK_g5 := bb BK_g5 hb; have c_g5 := cf7 BK_g5; (try clear c_g7); replace BK_g7 := bb BK_g7 hb; have c_g7 := cf3 BK_g7; (try clear c_g8); replace BK_g8 := bb BK_g8 hb; have c_g8 := cf2 BK_g8; replace HI := bC HI hb; have BK_ge := am hbox; have c_ge := cf6 BK_ge; clear hb hbox hg_) | (go_at_call 25; refine (HND.out _ ge gi ci ⟨HG.out.below HB.out, BK_ge.out, Kd.C_below HTY.out HB.out, HTC.out, Kd.C_below HP.out HB.out, HI.out, Kd.C_below HL.out HB.out⟩).mono ?_; rintro e W7 ⟨rfl, hb⟩; replace HB := bs HB hb; (try clear c_g4); replace BK_g4 := bb BK_g4 hb; have c_g4 := cf1 BK_g4; (try clear c_g5); replace BK_g5 := bb BK_g5 hb; have c_g5 := cf7 BK_g5; (try clear c_g7); replace BK_g7 := bb BK_g7 hb; have c_g7 := cf3 BK_g7; (try clear c_g8); replace BK_g8 := bb BK_g8 hb; have c_g8 := cf2 BK_g8; (try clear c_ge); replace BK_ge := bb BK_ge hb; have c_ge := cf6 BK_ge; replace HI := bC HI hb; clear hb))
 refine bodyPost_ret (v := .agg #[.bool x.1, .int .i64 x.2]) (by simp [results, Tryd.results16, go_sem, *]) rfl ⟨rfl, ?_⟩
 exact below_set (below_set HB.out GE_g8.out) GE_g8.out
theorem run_is (A : Option Addr) (c : Nat) (code : List S47) (B : Option Addr) (c2 : Nat) (cols : List (List Int)) (AL : Option Addr) (cL : Nat) (L : List (List S73)) (each at_ : Int) (w : World) (G : Glob w)
  (hcode : Kd.C k47 w A code.length code) (hcols : Kd.C (Kd.slice 3 (Kd.int .i64)) w B cols.length cols) (hL : Kd.C (Kd.slice 73 k73) w AL L.length L) (hbd : ∀ l ∈ L, l.length ≤ 2147483647)
  (hat : -9223372036854775808 ≤ at_) (hat2 : at_ ≤ 9223372036854775807) (hsz : code.length ≤ 4398046511104) (b : Bool) (n e0 : Int) (hv : runV code cols L each at_ = ((b, n), e0)) :
  Calls Tryd.prog 10 #[.agg #[.slice A code.length c, .slice B cols.length c2], .agg #[.slice AL L.length cL, .int .i64 each, .int .i64 at_]] w fun e w' => e = .returned (.tuple #[.agg #[.bool b, .int .i64 n], .int .i64 e0]) ∧ Below w.heap.size w w' := by
 have h := code_Run_t A c code B c2 cols AL cL L each at_ w G hcode hcols hL hbd hat hat2 hsz
 rw [hv] at h
 exact h
theorem true_is (n : Int) (w : World) (hn : n ≠ 0) : Calls Tryd.prog 26 #[.agg #[.bool true, .int .i64 n]] w fun e w' => e = .returned (.bool true) ∧ Below w.heap.size w w' :=
 num_True.calls true n true w (by unfold num_True.f num_rank.f; simp [hn])
set_option maxHeartbeats 8000000 in
set_option maxRecDepth 100000 in
theorem code_Holds (A : Option Addr) (c : Nat) (code : List S47) (B : Option Addr) (c2 : Nat) (cols : List (List Int)) (AL : Option Addr) (cL : Nat) (L : List (List S73)) (each at_ : Int) (w : World) (G : Glob w)
  (hcode : Kd.C k47 w A code.length code) (hcols : Kd.C (Kd.slice 3 (Kd.int .i64)) w B cols.length cols) (hL : Kd.C (Kd.slice 73 k73) w AL L.length L) (hbd : ∀ l ∈ L, l.length ≤ 2147483647)
  (hat : -9223372036854775808 ≤ at_) (hat2 : at_ ≤ 9223372036854775807) (hsz : code.length ≤ 4398046511104) (n : Int) (hn : n ≠ 0) (hv : runV code cols L each at_ = ((true, n), 0)) :
  Calls Tryd.prog 17 #[.agg #[.slice A code.length c, .slice B cols.length c2], .agg #[.slice AL L.length cL, .int .i64 each, .int .i64 at_]] w fun e w' => e = .returned (.bool true) ∧ Below w.heap.size w w' := by
 have HG := am G
 have HC := am hcode
 have HD := am hcols
 have HL := am hL
 have HBD := am hbd
 have HAT := am hat
 have HAT2 := am hat2
 have HSZ := am hsz
 have HN := am hn
 have HV := am hv
 have HB := am (Below.refl w.heap.size w)
 clear G hcode hcols hL hbd hat hat2 hsz hn hv
 go_enter Tryd.func17, Tryd.ntmps17
 go_wp2_with (first | ((with_reducible refine gate_dst (N := 2) rfl ?_); refine box_event ?hg (N := 2) ?hd (cs := #[.slice A code.length c, .slice B cols.length c2]) (t := 42) ?hr ?_; (case hd => rfl); (case hg => rfl); (case hr => first | (go_simp; done) | (go_simp; rfl)); intro g2 hg_ W1 hbox hb; have GE_g2 := ge1 hg_ HB; replace HB := bs HB hb; have BK_g2 := am hbox; have c_g2 := cf2 BK_g2; clear hb hbox hg_) | ((with_reducible refine gate_dst (N := 3) rfl ?_); refine box_event ?hg (N := 3) ?hd (cs := #[.slice AL L.length cL, .int .i64 each, .int .i64 at_]) (t := 34) ?hr ?_; (case hd => rfl); (case hg => rfl); (case hr => first | (go_simp; done) | (go_simp; rfl)); intro g3 hg_ W2 hbox hb; have GE_g3 := ge1 hg_ HB; have NE_g3_g2 := ne1 hg_ BK_g2; have NE_g2_g3 := ne2 NE_g3_g2; replace HB := bs HB hb; (try clear c_g2); replace BK_g2 := bb BK_g2 hb; have c_g2 := cf2 BK_g2; have BK_g3 := am hbox; have c_g3 := cf3 BK_g3; clear hb hbox hg_) | (go_at_call 10; refine (run_is A c code B c2 cols AL cL L each at_ _ (HG.out.below HB.out) (Kd.C_below HC.out HB.out) (Kd.C_below HD.out HB.out) (Kd.C_below HL.out HB.out) HBD.out HAT.out HAT2.out HSZ.out true n 0 HV.out).mono ?_; rintro e W3 ⟨rfl, hb⟩; replace HB := bs HB hb; (try clear c_g2); replace BK_g2 := bb BK_g2 hb; have c_g2 := cf2 BK_g2; (try clear c_g3); replace BK_g3 := bb BK_g3 hb; have c_g3 := cf3 BK_g3; clear hb) | ((with_reducible refine gate_dst (N := 5) rfl ?_); refine box_event ?hg (N := 5) ?hd (cs := #[.bool false, .int .i64 0]) (t := 50) ?hr ?_; (case hd => rfl); (case hg => rfl); (case hr => first | (go_simp; done) | (go_simp; rfl)); intro g5 hg_ W4 hbox hb; have GE_g5 := ge1 hg_ HB; have NE_g5_g2 := ne1 hg_ BK_g2; have NE_g2_g5 := ne2 NE_g5_g2; have NE_g5_g3 := ne1 hg_ BK_g3; have NE_g3_g5 := ne2 NE_g5_g3; replace HB := bs HB hb; (try clear c_g2); replace BK_g2 := bb BK_g2 hb; have c_g2 := cf2 BK_g2; (try clear c_g3); replace BK_g3 := bb BK_g3 hb; have c_g3 := cf3 BK_g3; have BK_g5 := am hbox; have c_g5 := cf2 BK_g5; clear hb hbox hg_) | ((with_reducible refine gate_store (t := 50) (p := 5) rfl ?_); refine store_event (t := 50) (p := 5) (v := ?vo_W5_1) (w1 := ?w1_W5_2) ?hg ?ho ?hn ?hr ?_; (case ho => rfl); (case hg => rfl); (case hn => rfl); (case hr => first | (go_simp; done) | (go_simp; rfl)); intro W5 hw; have hk := kb2 hw; replace HB := sb2 HB GE_g5 hw; (try clear c_g2); replace BK_g2 := bk BK_g2 hk NE_g2_g5; have c_g2 := cf2 BK_g2; (try clear c_g3); replace BK_g3 := bk BK_g3 hk NE_g3_g5; have c_g3 := cf3 BK_g3; (try clear c_g5); replace BK_g5 := bp2 BK_g5 hw; have c_g5 := cf2 BK_g5; clear hk hw) | (go_at_call 26; refine (true_is n _ HN.out).mono ?_; rintro e W6 ⟨rfl, hb⟩; replace HB := bs HB hb; (try clear c_g2); replace BK_g2 := bb BK_g2 hb; have c_g2 := cf2 BK_g2; (try clear c_g3); replace BK_g3 := bb BK_g3 hb; have c_g3 := cf3 BK_g3; (try clear c_g5); replace BK_g5 := bb BK_g5 hb; have c_g5 := cf2 BK_g5; clear hb))
 go_ret
 exact ⟨rfl, HB.out⟩
end Go.Proofs.YtbhpjpeknooppaaDoor.M
namespace Go.Proofs.YtbhpjpeknooppaaDoor.M
open Go.RowKit Go.Proofs.YtbhpjpeknooppaaDoorW.PrintWords Go.Proofs.YtbhpjpeknooppaaDoorW.PrintLast Go.Proofs.YtbhpjpeknooppaaDoorW.PrintMore
open Go.Proofs.YtbhpjpeknooppaaDoor.PCodeSpares
set_option linter.unusedVariables false
set_option linter.unusedSimpArgs false
theorem row61 {w : World} {g n : Nat} {xs : List S61} (h : Kd.C k61 w (some ⟨g, 0, none⟩) n xs) (i : Nat) (hi : i < n) :
  ∀ j u, ([.int .i64 (rd_T61 xs (i : Int)).f0, .int .i64 (rd_T61 xs (i : Int)).f1, .string (rd_T61 xs (i : Int)).f2, .string (rd_T61 xs (i : Int)).f3, .int .i64 (rd_T61 xs (i : Int)).f4, .int .i64 (rd_T61 xs (i : Int)).f5] : List Value)[j]? = some u → w.cell? ⟨g, i * 6 + j, none⟩ = some u := by
 obtain ⟨ad, c', he, _, hK, hc⟩ := Kd.C_get h z61 (i : Int) (by omega) (by omega)
 obtain rfl := Option.some.inj he
 obtain rfl := k61_open hK
 intro j u hu
 have := hc j u hu
 rw [Int.toNat_natCast, show i * k61.sz + j = i * 6 + j from rfl, add_plain] at this
 exact this
set_option maxHeartbeats 400000 in
set_option maxRecDepth 100000 in
theorem joined_at (A : Option Addr) (cA gB cB : Nat) (x0 x1 : Int) (x2 x3 : ByteArray) (x4 x5 y0 y1 : Int) (y2 y3 : ByteArray) (w : World) (hA : Kd.C k61 w A 1 [(⟨x0, x1, x2, x3, x4, x5⟩ : S61)]) (hB : Kd.C k61 w (some ⟨gB, 0, none⟩) 1 [(⟨y0, y1, y2, y3, -1, -1⟩ : S61)]) :
  Calls Tryd.prog 14 #[.int .i64 15, .slice A 1 cA, .slice (some ⟨gB, 0, none⟩) 1 cB] w fun e w' => ∃ v, e = .returned v ∧ Kd.R k61 61 w' w.heap.size (fun _ => True) v [(⟨x0, x1, x2, x3, x4, x5⟩ : S61), (⟨y0, y1, y2, y3, -1, -1⟩ : S61), (⟨15, 0, (⟨#[]⟩ : ByteArray), (⟨#[]⟩ : ByteArray), 0, 1⟩ : S61)] ∧ Below w.heap.size w w' := by
 have HA := am hA
 have HBB := am hB
 have HB := am (Below.refl w.heap.size w)
 clear hA hB
 go_enter Tryd.func14, Tryd.ntmps14
 go_wp2_with (first | ((with_reducible refine gate_builtin (b := .append) (xs := #[.tmp 10, .tmp 11]) rfl ?_); at_builtin; refine Kd.R_append_rows k61 (w0 := w) w.heap.size rfl (.tmp 10) (.tmp 11) 28 61 (.agg #[(.int .i64 0), (.int .i64 0), (.string ⟨#[]⟩), (.string ⟨#[]⟩), (.int .i64 0), (.int .i64 0)]) 64 rfl Tryd.underlying28 info61 rfl (by decide) (by omega) (.slice none 0 0) ([] : List S61) [(⟨x0, x1, x2, x3, x4, x5⟩ : S61)] A 1 cA (fun _ => True) (fun _ => False) rfl rfl (Kd.R_nil _ _ _ _ _) HA.out (fun x cs h => h) (fun _ h => h.elim) (fun _ _ => trivial) HB.out (Nat.le_refl _) (by decide) ?_; intro v1 W1 ho hb hg hat; obtain ⟨A1, c1, hv_⟩ := Kd.R_slice ho; have hv_ : v1 = .slice A1 1 c1 := hv_; subst hv_; have HO := am (show Kd.R k61 61 W1 w.heap.size (fun _ => True) (.slice A1 1 c1) [(⟨x0, x1, x2, x3, x4, x5⟩ : S61)] from ho); have HB1 := am hb; clear ho hb hg hat))
 refine wp_loop_rounds 2 ?_
 rw [rounds_succ]
 clear HB
 have HB := HB1
 clear HB1
 have b0 : W1.cell? ⟨gB, 0, none⟩ = some (.int .i64 y0) := pw_cell_below HB.out (row61 HBB.out 0 (by decide) 0 _ rfl)
 have b1 : W1.cell? ⟨gB, 1, none⟩ = some (.int .i64 y1) := pw_cell_below HB.out (row61 HBB.out 0 (by decide) 1 _ rfl)
 have b2 : W1.cell? ⟨gB, 2, none⟩ = some (.string y2) := pw_cell_below HB.out (row61 HBB.out 0 (by decide) 2 _ rfl)
 have b3 : W1.cell? ⟨gB, 3, none⟩ = some (.string y3) := pw_cell_below HB.out (row61 HBB.out 0 (by decide) 3 _ rfl)
 have b4 : W1.cell? ⟨gB, 4, none⟩ = some (.int .i64 (-1)) := pw_cell_below HB.out (row61 HBB.out 0 (by decide) 4 _ rfl)
 have b5 : W1.cell? ⟨gB, 5, none⟩ = some (.int .i64 (-1)) := pw_cell_below HB.out (row61 HBB.out 0 (by decide) 5 _ rfl)
 go_wp2_with (first | ((with_reducible refine gate_dst (N := 9) rfl ?_); refine box_event ?hg (N := 9) ?hd (cs := #[.int .i64 0, .int .i64 0, .string ByteArray.empty, .string ByteArray.empty, .int .i64 0, .int .i64 0]) (t := 61) ?hr ?_; (case hd => rfl); (case hg => rfl); (case hr => first | (go_simp; done) | (go_simp; rfl)); clear b0 b1 b2 b3 b4 b5; intro g9 hg_ W2 hbox hb; have GE_g9 := ge1 hg_ HB; replace HB := bs HB hb; replace HO := am (Kd.R_mono (Kd.R_below (Kd.R_mono (ok' := fun q => q < W1.heap.size) (Kd.R_bound HO.out) (fun q hq => hq.2.2.1)) hb) (ok' := fun q => q ≠ g9) (fun q hq e => by omega)); have BK_g9 := am hbox; have c_g9 := cf6 BK_g9; clear hb hbox hg_) | ((with_reducible refine gate_store (t := 61) (p := 9) rfl ?_); refine store_event (t := 61) (p := 9) (v := ?vo_W3_1) (w1 := ?w1_W3_2) ?hg ?ho ?hn ?hr ?_; (case ho => rfl); (case hg => rfl); (case hn => rfl); (case hr => first | (go_simp; done) | (go_simp; rfl)); intro W3 hw; have hk := kb6 hw; replace HO := am (Kd.R_keep HO.out hk (fun _ h_ => h_)); replace HB := sb6 HB GE_g9 hw; (try clear c_g9); replace BK_g9 := bp6 BK_g9 hw; have c_g9 := cf6 BK_g9; clear hk hw; have NG9 := am (blk_lt BK_g9.out)) | ((with_reducible refine gate_builtin (b := .append) (xs := #[.tmp 55, .tmp 57]) rfl ?_); at_builtin; refine Kd.R_append k61 (w0 := w) w.heap.size rfl (.tmp 55) (.tmp 57) 28 61 (.agg #[(.int .i64 0), (.int .i64 0), (.string ⟨#[]⟩), (.string ⟨#[]⟩), (.int .i64 0), (.int .i64 0)]) 64 rfl Tryd.underlying28 info61 rfl (by decide) (by omega) _ [(⟨x0, x1, x2, x3, x4, x5⟩ : S61)] (⟨y0, y1, y2, y3, -1, -1⟩ : S61) [.int .i64 y0, .int .i64 y1, .string y2, .string y3, .int .i64 (-1), .int .i64 (-1)] (fun q => q ≠ g9) (fun _ => False) rfl ?aX ?aP (fun _ hk => hk.elim) ?aF HO.out HB.out (below_size HB.out) ?aL ?_; (case aX => first | rfl | (show Value.slice _ _ _ = Value.slice _ _ _; simp)); (case aP => exact k61_mkM _ _ _ _); (case aF => exact (fun q hq e => by have := NG9.out; omega)); (case aL => show (1 + 1) * 64 ≤ 140737488355328; decide); intro v2 W4 ho hb hg hat; obtain ⟨A2, c2, hv_⟩ := Kd.R_slice ho; have hv_ : v2 = .slice A2 2 c2 := hv_; subst hv_; have HO9 := am (show Kd.R k61 61 W4 w.heap.size (fun q => q ≠ g9) (.slice A2 2 c2) [(⟨x0, x1, x2, x3, x4, x5⟩ : S61), (⟨y0, y1, y2, y3, -1, -1⟩ : S61)] from ho); have HB9 := am hb; have NG9 := am (Nat.lt_of_lt_of_le NG9.out hg.size); clear HO HB; have HO := HO9; have HB := HB9; clear HO9 HB9 ho hb hg hat))
 rw [rounds_succ]
 (try clear c_g9)
 go_wp2_with (first | ((with_reducible refine gate_builtin (b := .append) (xs := #[.tmp 59, .tmp 71]) rfl ?_); at_builtin; refine Kd.R_append k61 (w0 := w) w.heap.size rfl (.tmp 59) (.tmp 71) 28 61 (.agg #[(.int .i64 0), (.int .i64 0), (.string ⟨#[]⟩), (.string ⟨#[]⟩), (.int .i64 0), (.int .i64 0)]) 64 rfl Tryd.underlying28 info61 rfl (by decide) (by omega) _ [(⟨x0, x1, x2, x3, x4, x5⟩ : S61), (⟨y0, y1, y2, y3, -1, -1⟩ : S61)] (⟨15, 0, (⟨#[]⟩ : ByteArray), (⟨#[]⟩ : ByteArray), 0, 1⟩ : S61) [.int .i64 15, .int .i64 0, .string (⟨#[]⟩ : ByteArray), .string (⟨#[]⟩ : ByteArray), .int .i64 0, .int .i64 1] (fun q => q ≠ g9) (fun _ => False) rfl ?aX ?aP (fun _ hk => hk.elim) ?aF HO.out HB.out (below_size HB.out) ?aL ?_; (case aX => first | rfl | (show Value.slice _ _ _ = Value.slice _ _ _; simp)); (case aP => exact k61_mkM _ _ _ _); (case aF => exact (fun q hq e => by have := NG9.out; omega)); (case aL => show (2 + 1) * 64 ≤ 140737488355328; decide); intro v2 W5 ho hb hg hat; obtain ⟨A2, c2, hv_⟩ := Kd.R_slice ho; have hv_ : v2 = .slice A2 3 c2 := hv_; subst hv_; have HO9 := am (show Kd.R k61 61 W5 w.heap.size (fun q => q ≠ g9) (.slice A2 3 c2) [(⟨x0, x1, x2, x3, x4, x5⟩ : S61), (⟨y0, y1, y2, y3, -1, -1⟩ : S61), (⟨15, 0, (⟨#[]⟩ : ByteArray), (⟨#[]⟩ : ByteArray), 0, 1⟩ : S61)] from ho); have HB9 := am hb; skip; clear HO HB; have HO := HO9; have HB := HB9; clear HO9 HB9 ho hb hg hat))
 go_ret
 exact ⟨_, rfl, Kd.R_mono HO.out (fun _ _ => trivial), HB.out⟩
end Go.Proofs.YtbhpjpeknooppaaDoor.M
namespace Go.Proofs.YtbhpjpeknooppaaDoor.M
open Go.RowKit Go.Proofs.YtbhpjpeknooppaaDoorW.PrintWords Go.Proofs.YtbhpjpeknooppaaDoorW.PrintLast Go.Proofs.YtbhpjpeknooppaaDoorW.PrintMore
open Go.Proofs.YtbhpjpeknooppaaDoor.PCodeSpares
def awTypes : List S65 := [⟨⟨#[65]⟩, [⟨#[120]⟩]⟩]
def awIts : List S67 := [⟨false, [⟨#[65]⟩], ⟨#[97]⟩, 1, 1⟩]
def awTree : List S61 := [⟨4, 0, ⟨#[97]⟩, ⟨#[120]⟩, -1, -1⟩, ⟨5, 0, ⟨#[97]⟩, ⟨#[]⟩, -1, -1⟩, ⟨15, 0, ⟨#[]⟩, ⟨#[]⟩, 0, 1⟩]
def awEv : S73 := ⟨1, 0, 0, 7, 0, 0, 0, 0, 0, 0, 0⟩
theorem aw_rnb : rnbV awIts awTree = true := by kernel_rfl
theorem aw_items : itemsV awIts awTree = [0, 0, 0] := by kernel_rfl
theorem aw_code : (cpK awTypes [0, 0, 0] awTree 3).1.code = [⟨2, 0, 0, 0, 0⟩, ⟨4, 0, 0, 0, 0⟩, ⟨13, 0, 0, 0, 0⟩] := by kernel_rfl
theorem aw_cols : (cpK awTypes [0, 0, 0] awTree 3).1.cols = [[0]] := by kernel_rfl
theorem aw_comp : compV awTypes awIts awTree = ([⟨2, 0, 0, 0, 0⟩, ⟨4, 0, 0, 0, 0⟩, ⟨13, 0, 0, 0, 0⟩], [[0]]) := by
 unfold compV
 rw [if_pos aw_rnb, aw_items]
 show ((cpK awTypes [0, 0, 0] awTree 3).1.code, (cpK awTypes [0, 0, 0] awTree 3).1.cols) = _
 rw [aw_code, aw_cols]
theorem aw_run : runV (compV awTypes awIts awTree).1 (compV awTypes awIts awTree).2 [[awEv]] (-1) 0 = ((true, 6), 0) := by
 rw [aw_comp]
 kernel_rfl
theorem aw_attr : valueV (rd_T73 (listV [[awEv]] 0) 0) (attrO awTypes ((0 : Nat) : Int) ⟨#[120]⟩) = (true, 7) := by kernel_rfl
theorem aw_sub : applyV 15 true 7 true 1 = (true, 6) := by kernel_rfl
end Go.Proofs.YtbhpjpeknooppaaDoor.M
namespace Go.Proofs.YtbhpjpeknooppaaDoor.M
open Go.RowKit Go.Proofs.YtbhpjpeknooppaaDoorW.PrintWords Go.Proofs.YtbhpjpeknooppaaDoorW.PrintLast Go.Proofs.YtbhpjpeknooppaaDoorW.PrintMore
open Go.Proofs.YtbhpjpeknooppaaDoor.PCodeSpares
set_option linter.unusedVariables false
set_option linter.unusedSimpArgs false
def aw_r.T : Bool × List (List Nat × List Nat) := (true, [([], []), ([], []), ([], []), ([0, 1, 2], [0, 1, 2]), ([], []), ([3, 4, 3], [3, 4]), ([5], [5]), ([6], [6]), ([6], [6]), ([], []), ([9, 7, 5, 0, 1, 2, 3, 4, 5, 6, 7, 9], [7, 9]), ([8, 10, 0, 1, 2, 3, 4, 5, 6, 7, 8, 9, 10], [8])])
def aw_r.B : List Nat := [0, 0, 0, 7, 0, 31, 63, 127, 127, 0, 767, 2047]
theorem aw_r.tab : rtab .any (opsOf Tryd.f7 6) = aw_r.T := by kernel_rfl
theorem aw_r.bits : waitsOk aw_r.T.2 aw_r.B = true := by kernel_rfl
def aw_q.T : Bool × List (List Nat × List Nat) := (true, [([], []), ([], []), ([0, 1], [0, 1]), ([2], [2]), ([3], [3]), ([3], [3]), ([4, 5, 3], [3, 4, 5]), ([3, 6], [3, 6]), ([7, 3], [7]), ([8], [8]), ([9, 8], [8, 9]), ([8, 10], [8, 10]), ([11, 8], [11]), ([12], [12]), ([12], [12]), ([12], [12]), ([13, 14, 15, 12, 12], [12, 13, 14, 15]), ([12], [12]), ([16, 17, 16, 12], [12, 16, 17]), ([12, 18], [12, 18]), ([19, 18, 0, 1, 2, 3, 4, 5, 6, 7, 8, 9, 10, 11, 12, 13, 14, 15, 16, 17, 18, 19], [19])])
def aw_q.B : List Nat := [0, 0, 3, 7, 15, 15, 63, 127, 255, 511, 1023, 2047, 4095, 8191, 8191, 8191, 65535, 8191, 262143, 524287, 1048575]
theorem aw_q.tab : rtab .any (opsOf Tryd.f7 8) = aw_q.T := by kernel_rfl
theorem aw_q.bits : waitsOk aw_q.T.2 aw_q.B = true := by kernel_rfl
theorem eqA50 (d : Nat) (w : World) (x0 y0 : Bool) (x1 y1 : Int) : (Op.equalIn (d + 2) 50 (.agg #[.bool x0, .int .i64 x1]) (.agg #[.bool y0, .int .i64 y1])).run Tryd.prog w = .ok (x0 == y0 && x1 == y1) w := by
 refine eqA_of Tryd.underlying50 (by kernel_rfl) ?_
 refine eqf_cons (by rfl) (by go_simp; rfl) (by go_simp; rfl) (by go_simp) ?_
 exact eqf_last (by rfl) (by go_simp; rfl) (by go_simp; rfl) (by go_simp)
attribute [local go_sem high] eqA50
theorem C_one {α : Type} {d : Kd α} {W : World} {g e : Nat} {cs : Array Value} {x : α} (hb : W.heap[g]? = some (.cells cs e (0, 0))) (hK : d.K W x cs.toList) : d.C W (some ⟨g, 0, none⟩) 1 [x] := by
 refine ⟨rfl, by decide, fun _ => ⟨⟨g, 0, none⟩, rfl, fun j p hj => ?_⟩⟩
 match j, hj with
 | 0, hj =>
  cases hj
  refine ⟨cs.toList, d.K_len hK, hK, fun i u hu => ?_⟩
  rw [Nat.zero_mul, Nat.zero_add, add_plain, blk_cell hb i, ← hu]
  simp
 | j + 1, hj => simp at hj
theorem leaf_is (a0 a1 : Int) (a2 a3 : ByteArray) (w : World) : Calls Tryd.prog 15 #[.agg #[.int .i64 a0, .int .i64 a1, .string a2, .string a3, .int .i64 0, .int .i64 0]] w fun e w' => ∃ g c, e = .returned (.slice (some ⟨g, 0, none⟩) 1 c) ∧ Kd.C k61 w' (some ⟨g, 0, none⟩) 1 [⟨a0, a1, a2, a3, -1, -1⟩] ∧ Below w.heap.size w w' :=
 (sluicelaw7_leaf.calls a0 a1 a2 a3 0 0 _ w rfl).mono fun e w' ⟨v, he, hr, hb⟩ => by
  obtain ⟨g, c, hv, _⟩ := Kd.R_form hr (Nat.succ_pos _)
  subst hv
  exact ⟨g, c, he, (Kd.R_reads' hr).2.2, hb⟩
theorem aw_node (w : World) (ge : Nat) (T0 : Option Addr) (tc : Nat) (A : Option Addr) (c : Nat) (gi ci : Nat) (AL : Option Addr) (cL : Nat) (hE : EvP w ge T0 tc awTypes A c awTree gi ci (itemsV awIts awTree) AL cL [[awEv]] (-1) 0) :
  Calls Tryd.prog 25 #[.pointer (some ⟨ge, 0, none⟩), .int .i64 ((awTree.length : Int) - 1)] w fun e w' => e = .returned (.agg #[.bool true, .int .i64 6]) ∧ Below w.heap.size w w' := by
 have h := ev_sub w ge T0 tc awTypes A c awTree gi ci (itemsV awIts awTree) AL cL [[awEv]] (-1) 0 hE 2 (by decide) 15 0 ⟨#[]⟩ ⟨#[]⟩ 0 1 rfl 0 (by rw [aw_items]; rfl) (by decide) rfl 0 1 rfl rfl (true, 7) (true, 1)
  (fun w1 h1 => by
   have h2 := ev_attr w1 ge T0 tc awTypes A c awTree gi ci (itemsV awIts awTree) AL cL [[awEv]] (-1) 0 h1 0 (by decide) 4 0 ⟨#[97]⟩ ⟨#[120]⟩ (-1) (-1) rfl 0 (by rw [aw_items]; rfl) (by decide) rfl 0 (by decide) rfl (by decide)
   rw [aw_attr] at h2
   exact h2)
  (fun w1 h1 => ev_count w1 ge T0 tc awTypes A c awTree gi ci (itemsV awIts awTree) AL cL [[awEv]] (-1) 0 h1 1 (by decide) 5 0 ⟨#[97]⟩ ⟨#[]⟩ (-1) (-1) rfl 0 (by rw [aw_items]; rfl) (by decide) rfl (by decide))
 rw [aw_sub] at h
 exact h
theorem aw_types {W : World} {ga gb : Nat} (h1 : W.heap[ga]? = some (.cells #[.string (⟨#[120]⟩ : ByteArray)] 9 (0, 0))) (h2 : W.heap[gb]? = some (.cells #[.string (⟨#[65]⟩ : ByteArray), .slice (some ⟨ga, 0, none⟩) 1 1] 65 (0, 0))) : Kd.C k65 W (some ⟨gb, 0, none⟩) awTypes.length awTypes :=
 C_one h2 (k65_mk W ⟨⟨#[65]⟩, [⟨#[120]⟩]⟩ (Nat.le_refl _) (C_one h1 rfl))
theorem aw_query {W : World} {gc gd : Nat} (h1 : W.heap[gc]? = some (.cells #[.string (⟨#[65]⟩ : ByteArray)] 9 (0, 0))) (h2 : W.heap[gd]? = some (.cells #[.bool false, .slice (some ⟨gc, 0, none⟩) 1 1, .string (⟨#[97]⟩ : ByteArray), .int .i64 1, .int .i64 1] 67 (0, 0))) :
  QReads W (some ⟨gd, 0, none⟩) 1 awIts 0 0 none 0 [] 0 ByteArray.empty none 0 [] :=
 ⟨C_one h2 (k67_mk W ⟨false, [⟨#[65]⟩], ⟨#[97]⟩, 1, 1⟩ (Nat.le_refl _) (C_one h1 rfl)), Nat.le_refl _, Kd.C_nil _ _, Nat.le_refl _, Kd.C_nil _ _, Nat.le_refl _, by decide⟩
theorem aw_lists {W : World} {gv gl : Nat} (h1 : W.heap[gv]? = some (.cells #[.int .i64 1, .int .u64 0, .int .i64 0, .int .i64 7, .int .i64 0, .int .i64 0, .int .i64 0, .int .i64 0, .int .i64 0, .int .i64 0, .int .i64 0] 73 (0, 0))) (h2 : W.heap[gl]? = some (.cells #[.slice (some ⟨gv, 0, none⟩) 1 1] 62 (0, 0))) :
  Kd.C (Kd.slice 73 k73) W (some ⟨gl, 0, none⟩) 1 [[awEv]] :=
 C_one h2 ⟨some ⟨gv, 0, none⟩, 1, rfl, Nat.le_refl _, C_one h1 (k73_mk W awEv)⟩
set_option maxHeartbeats 8000000 in
set_option maxRecDepth 100000 in
theorem law7_awake (w : World) (G : Glob w) (GK : GlobK w) : Calls Tryd.prog 7 #[] w fun e w' => e = .returned (.bool true) ∧ Below w.heap.size w w' := by
 have HG := am G
 have HGK := am GK
 have HB := am (Below.refl w.heap.size w)
 clear G GK
 have tokA : True := trivial
 go_enter Tryd.func7, Tryd.ntmps7
 go_wp2_with (first | ((with_reducible refine gate_dst (N := 9) rfl ?_); refine Kd.event_run (v := .slice (some ⟨w.heap.size, 0, none⟩) 1 1) (w1 := w.alloc (.cells #[.string (⟨#[120]⟩ : ByteArray)] 9)) rfl (by first | (go_simp; done) | (go_simp; rfl)) ?_; have hb := (Below.refl w.heap.size w).alloc (Nat.le_refl _) (.cells #[.string (⟨#[120]⟩ : ByteArray)] 9); have hbox := blk_new w (.cells #[.string (⟨#[120]⟩ : ByteArray)] 9); obtain ⟨ga, hg_⟩ : ∃ ga, ga = w.heap.size := ⟨_, rfl⟩; rw [← hg_] at hbox ⊢; generalize w.alloc (.cells #[.string (⟨#[120]⟩ : ByteArray)] 9) = W1 at hb hbox ⊢; have GE_ga := ge1 hg_ HB; replace HB := bs HB hb; have BK_ga := am hbox; have c_ga := cf1 BK_ga; clear hb hbox hg_) | ((with_reducible refine gate_dst (N := 11) rfl ?_); refine Kd.event_run (v := .slice (some ⟨W1.heap.size, 0, none⟩) 1 1) (w1 := W1.alloc (.cells #[.string (⟨#[65]⟩ : ByteArray), .slice (some ⟨ga, 0, none⟩) 1 1] 65)) rfl (by first | (go_simp; done) | (go_simp; rfl)) ?_; have hb := (Below.refl W1.heap.size W1).alloc (Nat.le_refl _) (.cells #[.string (⟨#[65]⟩ : ByteArray), .slice (some ⟨ga, 0, none⟩) 1 1] 65); have hbox := blk_new W1 (.cells #[.string (⟨#[65]⟩ : ByteArray), .slice (some ⟨ga, 0, none⟩) 1 1] 65); obtain ⟨gb, hg_⟩ : ∃ gb, gb = W1.heap.size := ⟨_, rfl⟩; rw [← hg_] at hbox ⊢; generalize W1.alloc (.cells #[.string (⟨#[65]⟩ : ByteArray), .slice (some ⟨ga, 0, none⟩) 1 1] 65) = W2 at hb hbox ⊢; have GE_gb := ge1 hg_ HB; have NE_gb_ga := ne1 hg_ BK_ga; have NE_ga_gb := ne2 NE_gb_ga; replace HB := bs HB hb; (try clear c_ga); replace BK_ga := bb BK_ga hb; have c_ga := cf1 BK_ga; have BK_gb := am hbox; have c_gb := cf2 BK_gb; clear hb hbox hg_) | ((with_reducible refine gate_dst (N := 1) rfl ?_); refine box_event ?hg (N := 1) ?hd (cs := #[.slice none 0 0]) (t := 24) ?hr ?_; (case hd => rfl); (case hg => rfl); (case hr => first | (go_simp; done) | (go_simp; rfl)); intro g1 hg_ W3 hbox hb; have GE_g1 := ge1 hg_ HB; have NE_g1_ga := ne1 hg_ BK_ga; have NE_ga_g1 := ne2 NE_g1_ga; have NE_g1_gb := ne1 hg_ BK_gb; have NE_gb_g1 := ne2 NE_g1_gb; replace HB := bs HB hb; (try clear c_ga); replace BK_ga := bb BK_ga hb; have c_ga := cf1 BK_ga; (try clear c_gb); replace BK_gb := bb BK_gb hb; have c_gb := cf2 BK_gb; have BK_g1 := am hbox; have c_g1 := cf1 BK_g1; clear hb hbox hg_) | ((with_reducible refine gate_store (t := 24) (p := 1) rfl ?_); refine store_event (t := 24) (p := 1) (v := ?vo_W4_1) (w1 := ?w1_W4_2) ?hg ?ho ?hn ?hr ?_; (case ho => rfl); (case hg => rfl); (case hn => rfl); (case hr => first | (go_simp; done) | (go_simp; rfl)); intro W4 hw; have hk := kb1 hw; replace HB := sb1 HB GE_g1 hw; (try clear c_ga); replace BK_ga := bk BK_ga hk NE_ga_g1; have c_ga := cf1 BK_ga; (try clear c_gb); replace BK_gb := bk BK_gb hk NE_gb_g1; have c_gb := cf2 BK_gb; (try clear c_g1); replace BK_g1 := bp1 BK_g1 hw; have c_g1 := cf1 BK_g1; clear hk hw) | ((with_reducible refine gate_dst (N := 13) rfl ?_); refine Kd.event_run (v := .slice (some ⟨W4.heap.size, 0, none⟩) 1 1) (w1 := W4.alloc (.cells #[.string (⟨#[65]⟩ : ByteArray)] 9)) rfl (by first | (go_simp; done) | (go_simp; rfl)) ?_; have hb := (Below.refl W4.heap.size W4).alloc (Nat.le_refl _) (.cells #[.string (⟨#[65]⟩ : ByteArray)] 9); have hbox := blk_new W4 (.cells #[.string (⟨#[65]⟩ : ByteArray)] 9); obtain ⟨gc, hg_⟩ : ∃ gc, gc = W4.heap.size := ⟨_, rfl⟩; rw [← hg_] at hbox ⊢; generalize W4.alloc (.cells #[.string (⟨#[65]⟩ : ByteArray)] 9) = W5 at hb hbox ⊢; have GE_gc := ge1 hg_ HB; have NE_gc_ga := ne1 hg_ BK_ga; have NE_ga_gc := ne2 NE_gc_ga; have NE_gc_gb := ne1 hg_ BK_gb; have NE_gb_gc := ne2 NE_gc_gb; have NE_gc_g1 := ne1 hg_ BK_g1; have NE_g1_gc := ne2 NE_gc_g1; replace HB := bs HB hb; (try clear c_ga); replace BK_ga := bb BK_ga hb; have c_ga := cf1 BK_ga; (try clear c_gb); replace BK_gb := bb BK_gb hb; have c_gb := cf2 BK_gb; (try clear c_g1); replace BK_g1 := bb BK_g1 hb; have c_g1 := cf1 BK_g1; have BK_gc := am hbox; have c_gc := cf1 BK_gc; clear hb hbox hg_) | ((with_reducible refine gate_dst (N := 15) rfl ?_); refine Kd.event_run (v := .slice (some ⟨W5.heap.size, 0, none⟩) 1 1) (w1 := W5.alloc (.cells #[.bool false, .slice (some ⟨gc, 0, none⟩) 1 1, .string (⟨#[97]⟩ : ByteArray), .int .i64 1, .int .i64 1] 67)) rfl (by first | (go_simp; done) | (go_simp; rfl)) ?_; have hb := (Below.refl W5.heap.size W5).alloc (Nat.le_refl _) (.cells #[.bool false, .slice (some ⟨gc, 0, none⟩) 1 1, .string (⟨#[97]⟩ : ByteArray), .int .i64 1, .int .i64 1] 67); have hbox := blk_new W5 (.cells #[.bool false, .slice (some ⟨gc, 0, none⟩) 1 1, .string (⟨#[97]⟩ : ByteArray), .int .i64 1, .int .i64 1] 67); obtain ⟨gd, hg_⟩ : ∃ gd, gd = W5.heap.size := ⟨_, rfl⟩; rw [← hg_] at hbox ⊢; generalize W5.alloc (.cells #[.bool false, .slice (some ⟨gc, 0, none⟩) 1 1, .string (⟨#[97]⟩ : ByteArray), .int .i64 1, .int .i64 1] 67) = W6 at hb hbox ⊢; have GE_gd := ge1 hg_ HB; have NE_gd_ga := ne1 hg_ BK_ga; have NE_ga_gd := ne2 NE_gd_ga; have NE_gd_gb := ne1 hg_ BK_gb; have NE_gb_gd := ne2 NE_gd_gb; have NE_gd_g1 := ne1 hg_ BK_g1; have NE_g1_gd := ne2 NE_gd_g1; have NE_gd_gc := ne1 hg_ BK_gc; have NE_gc_gd := ne2 NE_gd_gc; replace HB := bs HB hb; (try clear c_ga); replace BK_ga := bb BK_ga hb; have c_ga := cf1 BK_ga; (try clear c_gb); replace BK_gb := bb BK_gb hb; have c_gb := cf2 BK_gb; (try clear c_g1); replace BK_g1 := bb BK_g1 hb; have c_g1 := cf1 BK_g1; (try clear c_gc); replace BK_gc := bb BK_gc hb; have c_gc := cf1 BK_gc; have BK_gd := am hbox; have c_gd := cf5 BK_gd; clear hb hbox hg_) | ((with_reducible refine gate_dst (N := 2) rfl ?_); refine box_event ?hg (N := 2) ?hd (cs := #[.slice none 0 0, .int .i64 0, .int .i64 0, .slice none 0 0, .int .i64 0, .string ByteArray.empty, .slice none 0 0]) (t := 31) ?hr ?_; (case hd => rfl); (case hg => rfl); (case hr => first | (go_simp; done) | (go_simp; rfl)); intro g2 hg_ W7 hbox hb; have GE_g2 := ge1 hg_ HB; have NE_g2_ga := ne1 hg_ BK_ga; have NE_ga_g2 := ne2 NE_g2_ga; have NE_g2_gb := ne1 hg_ BK_gb; have NE_gb_g2 := ne2 NE_g2_gb; have NE_g2_g1 := ne1 hg_ BK_g1; have NE_g1_g2 := ne2 NE_g2_g1; have NE_g2_gc := ne1 hg_ BK_gc; have NE_gc_g2 := ne2 NE_g2_gc; have NE_g2_gd := ne1 hg_ BK_gd; have NE_gd_g2 := ne2 NE_g2_gd; replace HB := bs HB hb; (try clear c_ga); replace BK_ga := bb BK_ga hb; have c_ga := cf1 BK_ga; (try clear c_gb); replace BK_gb := bb BK_gb hb; have c_gb := cf2 BK_gb; (try clear c_g1); replace BK_g1 := bb BK_g1 hb; have c_g1 := cf1 BK_g1; (try clear c_gc); replace BK_gc := bb BK_gc hb; have c_gc := cf1 BK_gc; (try clear c_gd); replace BK_gd := bb BK_gd hb; have c_gd := cf5 BK_gd; have BK_g2 := am hbox; have c_g2 := cf7 BK_g2; clear hb hbox hg_) | ((with_reducible refine gate_store (t := 31) (p := 2) rfl ?_); refine store_event (t := 31) (p := 2) (v := ?vo_W8_3) (w1 := ?w1_W8_4) ?hg ?ho ?hn ?hr ?_; (case ho => rfl); (case hg => rfl); (case hn => rfl); (case hr => first | (go_simp; done) | (go_simp; rfl)); intro W8 hw; have hk := kb7 hw; replace HB := sb7 HB GE_g2 hw; (try clear c_ga); replace BK_ga := bk BK_ga hk NE_ga_g2; have c_ga := cf1 BK_ga; (try clear c_gb); replace BK_gb := bk BK_gb hk NE_gb_g2; have c_gb := cf2 BK_gb; (try clear c_g1); replace BK_g1 := bk BK_g1 hk NE_g1_g2; have c_g1 := cf1 BK_g1; (try clear c_gc); replace BK_gc := bk BK_gc hk NE_gc_g2; have c_gc := cf1 BK_gc; (try clear c_gd); replace BK_gd := bk BK_gd hk NE_gd_g2; have c_gd := cf5 BK_gd; (try clear c_g2); replace BK_g2 := bp7 BK_g2 hw; have c_g2 := cf7 BK_g2; clear hk hw) | (go_at_call 15; have hid_ := tokA; clear tokA; refine (leaf_is 4 0 (⟨#[97]⟩ : ByteArray) (⟨#[120]⟩ : ByteArray) _).mono ?_; rintro e W9 ⟨l1, k1, rfl, hC_, hb⟩; have HC1 := am hC_; replace HB := bs HB hb; (try clear c_ga); replace BK_ga := bb BK_ga hb; have c_ga := cf1 BK_ga; (try clear c_gb); replace BK_gb := bb BK_gb hb; have c_gb := cf2 BK_gb; (try clear c_g1); replace BK_g1 := bb BK_g1 hb; have c_g1 := cf1 BK_g1; (try clear c_gc); replace BK_gc := bb BK_gc hb; have c_gc := cf1 BK_gc; (try clear c_gd); replace BK_gd := bb BK_gd hb; have c_gd := cf5 BK_gd; (try clear c_g2); replace BK_g2 := bb BK_g2 hb; have c_g2 := cf7 BK_g2; clear hb hC_; clear hid_) | (go_at_call 15; refine (leaf_is 5 0 (⟨#[97]⟩ : ByteArray) ByteArray.empty _).mono ?_; rintro e W10 ⟨l2, k2, rfl, hC_, hb⟩; have HC2 := am hC_; replace HB := bs HB hb; (try clear c_ga); replace BK_ga := bb BK_ga hb; have c_ga := cf1 BK_ga; (try clear c_gb); replace BK_gb := bb BK_gb hb; have c_gb := cf2 BK_gb; (try clear c_g1); replace BK_g1 := bb BK_g1 hb; have c_g1 := cf1 BK_g1; (try clear c_gc); replace BK_gc := bb BK_gc hb; have c_gc := cf1 BK_gc; (try clear c_gd); replace BK_gd := bb BK_gd hb; have c_gd := cf5 BK_gd; (try clear c_g2); replace BK_g2 := bb BK_g2 hb; have c_g2 := cf7 BK_g2; replace HC1 := bC HC1 hb; clear hb hC_) | (go_at_call 14; refine (joined_at (some ⟨l1, 0, none⟩) k1 l2 k2 4 0 (⟨#[97]⟩ : ByteArray) (⟨#[120]⟩ : ByteArray) (-1) (-1) 5 0 (⟨#[97]⟩ : ByteArray) ByteArray.empty _ HC1.out HC2.out).mono ?_; rintro e W11 ⟨vt, rfl, hR_, hb⟩; obtain ⟨gt, ct, hv_, _⟩ := Kd.R_form hR_ (Nat.succ_pos _); have hv_ : vt = .slice (some ⟨gt, 0, none⟩) 3 ct := hv_; subst hv_; have HT := am (show Kd.C k61 W11 (some ⟨gt, 0, none⟩) 3 awTree from (Kd.R_reads' hR_).2.2); replace HB := bs HB hb; (try clear c_ga); replace BK_ga := bb BK_ga hb; have c_ga := cf1 BK_ga; (try clear c_gb); replace BK_gb := bb BK_gb hb; have c_gb := cf2 BK_gb; (try clear c_g1); replace BK_g1 := bb BK_g1 hb; have c_g1 := cf1 BK_g1; (try clear c_gc); replace BK_gc := bb BK_gc hb; have c_gc := cf1 BK_gc; (try clear c_gd); replace BK_gd := bb BK_gd hb; have c_gd := cf5 BK_gd; (try clear c_g2); replace BK_g2 := bb BK_g2 hb; have c_g2 := cf7 BK_g2; clear hb hR_ HC1 HC2; have HJ := am (Below.refl W11.heap.size W11)) | ((with_reducible refine gate_dst (N := 24) rfl ?_); refine Kd.event_run (v := .slice (some ⟨W11.heap.size, 0, none⟩) 1 1) (w1 := W11.alloc (.cells #[.int .i64 1, .int .u64 0, .int .i64 0, .int .i64 7, .int .i64 0, .int .i64 0, .int .i64 0, .int .i64 0, .int .i64 0, .int .i64 0, .int .i64 0] 73)) rfl (by first | (go_simp; done) | (go_simp; rfl)) ?_; have hb := (Below.refl W11.heap.size W11).alloc (Nat.le_refl _) (.cells #[.int .i64 1, .int .u64 0, .int .i64 0, .int .i64 7, .int .i64 0, .int .i64 0, .int .i64 0, .int .i64 0, .int .i64 0, .int .i64 0, .int .i64 0] 73); have hbox := blk_new W11 (.cells #[.int .i64 1, .int .u64 0, .int .i64 0, .int .i64 7, .int .i64 0, .int .i64 0, .int .i64 0, .int .i64 0, .int .i64 0, .int .i64 0, .int .i64 0] 73); obtain ⟨gv, hg_⟩ : ∃ gv, gv = W11.heap.size := ⟨_, rfl⟩; rw [← hg_] at hbox ⊢; generalize W11.alloc (.cells #[.int .i64 1, .int .u64 0, .int .i64 0, .int .i64 7, .int .i64 0, .int .i64 0, .int .i64 0, .int .i64 0, .int .i64 0, .int .i64 0, .int .i64 0] 73) = W12 at hb hbox ⊢; have GE_gv := ge1 hg_ HB; have NE_gv_ga := ne1 hg_ BK_ga; have NE_ga_gv := ne2 NE_gv_ga; have NE_gv_gb := ne1 hg_ BK_gb; have NE_gb_gv := ne2 NE_gv_gb; have NE_gv_g1 := ne1 hg_ BK_g1; have NE_g1_gv := ne2 NE_gv_g1; have NE_gv_gc := ne1 hg_ BK_gc; have NE_gc_gv := ne2 NE_gv_gc; have NE_gv_gd := ne1 hg_ BK_gd; have NE_gd_gv := ne2 NE_gv_gd; have NE_gv_g2 := ne1 hg_ BK_g2; have NE_g2_gv := ne2 NE_gv_g2; replace HB := bs HB hb; (try clear c_ga); replace BK_ga := bb BK_ga hb; have c_ga := cf1 BK_ga; (try clear c_gb); replace BK_gb := bb BK_gb hb; have c_gb := cf2 BK_gb; (try clear c_g1); replace BK_g1 := bb BK_g1 hb; have c_g1 := cf1 BK_g1; (try clear c_gc); replace BK_gc := bb BK_gc hb; have c_gc := cf1 BK_gc; (try clear c_gd); replace BK_gd := bb BK_gd hb; have c_gd := cf5 BK_gd; (try clear c_g2); replace BK_g2 := bb BK_g2 hb; have c_g2 := cf7 BK_g2; replace HJ := bs HJ hb; have BK_gv := am hbox; have c_gv := cf11 BK_gv; clear hb hbox hg_) | ((with_reducible refine gate_dst (N := 25) rfl ?_); refine Kd.event_run (v := .slice (some ⟨W12.heap.size, 0, none⟩) 1 1) (w1 := W12.alloc (.cells #[.slice (some ⟨gv, 0, none⟩) 1 1] 62)) rfl (by first | (go_simp; done) | (go_simp; rfl)) ?_; have hb := (Below.refl W12.heap.size W12).alloc (Nat.le_refl _) (.cells #[.slice (some ⟨gv, 0, none⟩) 1 1] 62); have hbox := blk_new W12 (.cells #[.slice (some ⟨gv, 0, none⟩) 1 1] 62); obtain ⟨gl, hg_⟩ : ∃ gl, gl = W12.heap.size := ⟨_, rfl⟩; rw [← hg_] at hbox ⊢; generalize W12.alloc (.cells #[.slice (some ⟨gv, 0, none⟩) 1 1] 62) = W13 at hb hbox ⊢; have GE_gl := ge1 hg_ HB; have NE_gl_ga := ne1 hg_ BK_ga; have NE_ga_gl := ne2 NE_gl_ga; have NE_gl_gb := ne1 hg_ BK_gb; have NE_gb_gl := ne2 NE_gl_gb; have NE_gl_g1 := ne1 hg_ BK_g1; have NE_g1_gl := ne2 NE_gl_g1; have NE_gl_gc := ne1 hg_ BK_gc; have NE_gc_gl := ne2 NE_gl_gc; have NE_gl_gd := ne1 hg_ BK_gd; have NE_gd_gl := ne2 NE_gl_gd; have NE_gl_g2 := ne1 hg_ BK_g2; have NE_g2_gl := ne2 NE_gl_g2; have NE_gl_gv := ne1 hg_ BK_gv; have NE_gv_gl := ne2 NE_gl_gv; replace HB := bs HB hb; (try clear c_ga); replace BK_ga := bb BK_ga hb; have c_ga := cf1 BK_ga; (try clear c_gb); replace BK_gb := bb BK_gb hb; have c_gb := cf2 BK_gb; (try clear c_g1); replace BK_g1 := bb BK_g1 hb; have c_g1 := cf1 BK_g1; (try clear c_gc); replace BK_gc := bb BK_gc hb; have c_gc := cf1 BK_gc; (try clear c_gd); replace BK_gd := bb BK_gd hb; have c_gd := cf5 BK_gd; (try clear c_g2); replace BK_g2 := bb BK_g2 hb; have c_g2 := cf7 BK_g2; (try clear c_gv); replace BK_gv := bb BK_gv hb; have c_gv := cf11 BK_gv; replace HJ := bs HJ hb; have BK_gl := am hbox; have c_gl := cf1 BK_gl; clear hb hbox hg_) | ((with_reducible refine gate_dst (N := 4) rfl ?_); refine box_event ?hg (N := 4) ?hd (cs := #[.slice none 0 0, .int .i64 0, .int .i64 0]) (t := 34) ?hr ?_; (case hd => rfl); (case hg => rfl); (case hr => first | (go_simp; done) | (go_simp; rfl)); intro g4 hg_ W14 hbox hb; have GJ_g4 := ge1 hg_ HJ; have GE_g4 := ge1 hg_ HB; have NE_g4_ga := ne1 hg_ BK_ga; have NE_ga_g4 := ne2 NE_g4_ga; have NE_g4_gb := ne1 hg_ BK_gb; have NE_gb_g4 := ne2 NE_g4_gb; have NE_g4_g1 := ne1 hg_ BK_g1; have NE_g1_g4 := ne2 NE_g4_g1; have NE_g4_gc := ne1 hg_ BK_gc; have NE_gc_g4 := ne2 NE_g4_gc; have NE_g4_gd := ne1 hg_ BK_gd; have NE_gd_g4 := ne2 NE_g4_gd; have NE_g4_g2 := ne1 hg_ BK_g2; have NE_g2_g4 := ne2 NE_g4_g2; have NE_g4_gv := ne1 hg_ BK_gv; have NE_gv_g4 := ne2 NE_g4_gv; have NE_g4_gl := ne1 hg_ BK_gl; have NE_gl_g4 := ne2 NE_g4_gl; replace HB := bs HB hb; (try clear c_ga); replace BK_ga := bb BK_ga hb; have c_ga := cf1 BK_ga; (try clear c_gb); replace BK_gb := bb BK_gb hb; have c_gb := cf2 BK_gb; (try clear c_g1); replace BK_g1 := bb BK_g1 hb; have c_g1 := cf1 BK_g1; (try clear c_gc); replace BK_gc := bb BK_gc hb; have c_gc := cf1 BK_gc; (try clear c_gd); replace BK_gd := bb BK_gd hb; have c_gd := cf5 BK_gd; (try clear c_g2); replace BK_g2 := bb BK_g2 hb; have c_g2 := cf7 BK_g2; (try clear c_gv); replace BK_gv := bb BK_gv hb; have c_gv := cf11 BK_gv; (try clear c_gl); replace BK_gl := bb BK_gl hb; have c_gl := cf1 BK_gl; replace HJ := bs HJ hb; have BK_g4 := am hbox; have c_g4 := cf3 BK_g4; clear hb hbox hg_) | ((with_reducible refine gate_store (t := 34) (p := 4) rfl ?_); refine store_event (t := 34) (p := 4) (v := ?vo_W15_5) (w1 := ?w1_W15_6) ?hg ?ho ?hn ?hr ?_; (case ho => rfl); (case hg => rfl); (case hn => rfl); (case hr => first | (go_simp; done) | (go_simp; rfl)); intro W15 hw; have hk := kb3 hw; replace HJ := sb3 HJ GJ_g4 hw; replace HB := sb3 HB GE_g4 hw; (try clear c_ga); replace BK_ga := bk BK_ga hk NE_ga_g4; have c_ga := cf1 BK_ga; (try clear c_gb); replace BK_gb := bk BK_gb hk NE_gb_g4; have c_gb := cf2 BK_gb; (try clear c_g1); replace BK_g1 := bk BK_g1 hk NE_g1_g4; have c_g1 := cf1 BK_g1; (try clear c_gc); replace BK_gc := bk BK_gc hk NE_gc_g4; have c_gc := cf1 BK_gc; (try clear c_gd); replace BK_gd := bk BK_gd hk NE_gd_g4; have c_gd := cf5 BK_gd; (try clear c_g2); replace BK_g2 := bk BK_g2 hk NE_g2_g4; have c_g2 := cf7 BK_g2; (try clear c_gv); replace BK_gv := bk BK_gv hk NE_gv_g4; have c_gv := cf11 BK_gv; (try clear c_gl); replace BK_gl := bk BK_gl hk NE_gl_g4; have c_gl := cf1 BK_gl; (try clear c_g4); replace BK_g4 := bp3 BK_g4 hw; have c_g4 := cf3 BK_g4; clear hk hw) | (go_at_call 16; refine (code_Eval _ (HG.out.below HB.out) (HGK.out.below HB.out) (some ⟨gb, 0, none⟩) 1 awTypes (aw_types BK_ga.out BK_gb.out) (Nat.le_refl _) (some ⟨gd, 0, none⟩) 1 awIts 0 0 none 0 [] 0 ByteArray.empty none 0 [] (aw_query BK_gc.out BK_gd.out) (some ⟨gt, 0, none⟩) ct awTree (Kd.C_below HT.out HJ.out) (by decide) (some ⟨gl, 0, none⟩) 1 [[awEv]] (-1) 0 (aw_lists BK_gv.out BK_gl.out) aw_rnb (true, 6) (fun w1 ge gi ci h => aw_node w1 ge _ _ _ _ gi ci _ _ h)).mono ?_; rintro e W16 ⟨rfl, hb⟩; replace HB := bs HB hb; (try clear c_ga); replace BK_ga := bb BK_ga hb; have c_ga := cf1 BK_ga; (try clear c_gb); replace BK_gb := bb BK_gb hb; have c_gb := cf2 BK_gb; (try clear c_g1); replace BK_g1 := bb BK_g1 hb; have c_g1 := cf1 BK_g1; (try clear c_gc); replace BK_gc := bb BK_gc hb; have c_gc := cf1 BK_gc; (try clear c_gd); replace BK_gd := bb BK_gd hb; have c_gd := cf5 BK_gd; (try clear c_g2); replace BK_g2 := bb BK_g2 hb; have c_g2 := cf7 BK_g2; (try clear c_gv); replace BK_gv := bb BK_gv hb; have c_gv := cf11 BK_gv; (try clear c_gl); replace BK_gl := bb BK_gl hb; have c_gl := cf1 BK_gl; (try clear c_g4); replace BK_g4 := bb BK_g4 hb; have c_g4 := cf3 BK_g4; replace HJ := bs HJ hb; clear hb) | ((with_reducible refine gate_dst (N := 5) rfl ?_); refine box_event ?hg (N := 5) ?hd (cs := #[.bool false, .int .i64 0]) (t := 50) ?hr ?_; (case hd => rfl); (case hg => rfl); (case hr => first | (go_simp; done) | (go_simp; rfl)); intro g5 hg_ W17 hbox hb; have GJ_g5 := ge1 hg_ HJ; have GE_g5 := ge1 hg_ HB; have NE_g5_ga := ne1 hg_ BK_ga; have NE_ga_g5 := ne2 NE_g5_ga; have NE_g5_gb := ne1 hg_ BK_gb; have NE_gb_g5 := ne2 NE_g5_gb; have NE_g5_g1 := ne1 hg_ BK_g1; have NE_g1_g5 := ne2 NE_g5_g1; have NE_g5_gc := ne1 hg_ BK_gc; have NE_gc_g5 := ne2 NE_g5_gc; have NE_g5_gd := ne1 hg_ BK_gd; have NE_gd_g5 := ne2 NE_g5_gd; have NE_g5_g2 := ne1 hg_ BK_g2; have NE_g2_g5 := ne2 NE_g5_g2; have NE_g5_gv := ne1 hg_ BK_gv; have NE_gv_g5 := ne2 NE_g5_gv; have NE_g5_gl := ne1 hg_ BK_gl; have NE_gl_g5 := ne2 NE_g5_gl; have NE_g5_g4 := ne1 hg_ BK_g4; have NE_g4_g5 := ne2 NE_g5_g4; replace HB := bs HB hb; (try clear c_ga); replace BK_ga := bb BK_ga hb; have c_ga := cf1 BK_ga; (try clear c_gb); replace BK_gb := bb BK_gb hb; have c_gb := cf2 BK_gb; (try clear c_g1); replace BK_g1 := bb BK_g1 hb; have c_g1 := cf1 BK_g1; (try clear c_gc); replace BK_gc := bb BK_gc hb; have c_gc := cf1 BK_gc; (try clear c_gd); replace BK_gd := bb BK_gd hb; have c_gd := cf5 BK_gd; (try clear c_g2); replace BK_g2 := bb BK_g2 hb; have c_g2 := cf7 BK_g2; (try clear c_gv); replace BK_gv := bb BK_gv hb; have c_gv := cf11 BK_gv; (try clear c_gl); replace BK_gl := bb BK_gl hb; have c_gl := cf1 BK_gl; (try clear c_g4); replace BK_g4 := bb BK_g4 hb; have c_g4 := cf3 BK_g4; replace HJ := bs HJ hb; have BK_g5 := am hbox; have c_g5 := cf2 BK_g5; clear hb hbox hg_) | ((with_reducible refine gate_store (t := 50) (p := 5) rfl ?_); refine store_event (t := 50) (p := 5) (v := ?vo_W18_7) (w1 := ?w1_W18_8) ?hg ?ho ?hn ?hr ?_; (case ho => rfl); (case hg => rfl); (case hn => rfl); (case hr => first | (go_simp; done) | (go_simp; rfl)); intro W18 hw; have hk := kb2 hw; replace HJ := sb2 HJ GJ_g5 hw; replace HB := sb2 HB GE_g5 hw; (try clear c_ga); replace BK_ga := bk BK_ga hk NE_ga_g5; have c_ga := cf1 BK_ga; (try clear c_gb); replace BK_gb := bk BK_gb hk NE_gb_g5; have c_gb := cf2 BK_gb; (try clear c_g1); replace BK_g1 := bk BK_g1 hk NE_g1_g5; have c_g1 := cf1 BK_g1; (try clear c_gc); replace BK_gc := bk BK_gc hk NE_gc_g5; have c_gc := cf1 BK_gc; (try clear c_gd); replace BK_gd := bk BK_gd hk NE_gd_g5; have c_gd := cf5 BK_gd; (try clear c_g2); replace BK_g2 := bk BK_g2 hk NE_g2_g5; have c_g2 := cf7 BK_g2; (try clear c_gv); replace BK_gv := bk BK_gv hk NE_gv_g5; have c_gv := cf11 BK_gv; (try clear c_gl); replace BK_gl := bk BK_gl hk NE_gl_g5; have c_gl := cf1 BK_gl; (try clear c_g4); replace BK_g4 := bk BK_g4 hk NE_g4_g5; have c_g4 := cf3 BK_g4; (try clear c_g5); replace BK_g5 := bp2 BK_g5 hw; have c_g5 := cf2 BK_g5; clear hk hw))
 refine start_ (n := 12) (S := fun w' => w'.cell? ⟨g1, 0, none⟩ = some (.slice (some ⟨gb, 0, none⟩) 1 1) ∧ w'.cell? ⟨g2, 0, none⟩ = some (.slice (some ⟨gd, 0, none⟩) 1 1) ∧ w'.cell? ⟨g2, 1, none⟩ = some (.int .i64 0) ∧ w'.cell? ⟨g2, 2, none⟩ = some (.int .i64 0) ∧ w'.cell? ⟨g2, 3, none⟩ = some (.slice none 0 0) ∧ w'.cell? ⟨g2, 4, none⟩ = some (.int .i64 0) ∧ w'.cell? ⟨g2, 5, none⟩ = some (.string ByteArray.empty) ∧ w'.cell? ⟨g2, 6, none⟩ = some (.slice none 0 0) ∧ w'.cell? ⟨g4, 0, none⟩ = some (.slice (some ⟨gl, 0, none⟩) 1 1) ∧ w'.cell? ⟨g4, 1, none⟩ = some (.int .i64 (-1)) ∧ w'.cell? ⟨g4, 2, none⟩ = some (.int .i64 0)) (ds := [10]) #[false, false, false, false, false, false, false, false, false, false, false, false] (by kernel_rfl) rfl rfl ⟨(blk_cell BK_g1.out 0).trans rfl, (blk_cell BK_g2.out 0).trans rfl, (blk_cell BK_g2.out 1).trans rfl, (blk_cell BK_g2.out 2).trans rfl, (blk_cell BK_g2.out 3).trans rfl, (blk_cell BK_g2.out 4).trans rfl, (blk_cell BK_g2.out 5).trans rfl, (blk_cell BK_g2.out 6).trans rfl, (blk_cell BK_g4.out 0).trans rfl, (blk_cell BK_g4.out 1).trans rfl, (blk_cell BK_g4.out 2).trans rfl⟩ (fun hHeld => ?_)
 refine with_tabW aw_r.tab aw_r.bits (fun HT_ HW_ => ?_)
 (try clear c_ga)
 (try clear c_gb)
 (try clear c_g1)
 (try clear c_gc)
 (try clear c_gd)
 (try clear c_g2)
 (try clear c_gv)
 (try clear c_gl)
 (try clear c_g4)
 (try clear c_g5)
 have hb := below_drew1 (Below.refl W18.heap.size W18)
 generalize W18.drew = W19 at hHeld hb ⊢
 replace HB := bs HB hb
 (try clear c_ga)
 replace BK_ga := bb BK_ga hb
 have c_ga := cf1 BK_ga
 (try clear c_gb)
 replace BK_gb := bb BK_gb hb
 have c_gb := cf2 BK_gb
 (try clear c_g1)
 replace BK_g1 := bb BK_g1 hb
 have c_g1 := cf1 BK_g1
 (try clear c_gc)
 replace BK_gc := bb BK_gc hb
 have c_gc := cf1 BK_gc
 (try clear c_gd)
 replace BK_gd := bb BK_gd hb
 have c_gd := cf5 BK_gd
 (try clear c_g2)
 replace BK_g2 := bb BK_g2 hb
 have c_g2 := cf7 BK_g2
 (try clear c_gv)
 replace BK_gv := bb BK_gv hb
 have c_gv := cf11 BK_gv
 (try clear c_gl)
 replace BK_gl := bb BK_gl hb
 have c_gl := cf1 BK_gl
 (try clear c_g4)
 replace BK_g4 := bb BK_g4 hb
 have c_g4 := cf3 BK_g4
 (try clear c_g5)
 replace BK_g5 := bb BK_g5 hb
 have c_g5 := cf2 BK_g5
 replace HJ := bs HJ hb
 clear hb
 (try clear c_ga)
 (try clear c_gb)
 (try clear c_g1)
 (try clear c_gc)
 (try clear c_gd)
 (try clear c_g2)
 (try clear c_gv)
 (try clear c_gl)
 (try clear c_g4)
 (try clear c_g5)
 refine take_ (i := 0) (N := some 33) (v := ?_) (a' := ?_) #[true, false, false, false, false, false, false, false, false, false, false, false] rfl rfl (take_ofW HT_.out HW_.out (by kernel_rfl)) (fun _ _ _ h => h) (Or.inl ⟨by rfl, ?_⟩) hHeld ?_ ?_
 rotate_left
 ·rintro w' ⟨s0, s1, s2, s3, s4, s5, s6, s7, s8, s9, s10⟩
  go_simp
  with_reducible rfl
 rotate_left
 ·simp only [Act.put, List.setIfInBounds_toArray, List.set_cons_zero, List.set_cons_succ, i64_w]
  rfl
 refine take_ (i := 1) (N := some 34) (v := ?_) (a' := ?_) #[true, true, false, false, false, false, false, false, false, false, false, false] rfl rfl (take_ofW HT_.out HW_.out (by kernel_rfl)) (fun _ _ _ h => h) (Or.inl ⟨by rfl, ?_⟩) hHeld ?_ ?_
 rotate_left
 ·rintro w' ⟨s0, s1, s2, s3, s4, s5, s6, s7, s8, s9, s10⟩
  go_simp
  with_reducible rfl
 rotate_left
 ·simp only [Act.put, List.setIfInBounds_toArray, List.set_cons_zero, List.set_cons_succ, i64_w]
  rfl
 refine pure_ (i := 2) (N := some 35) (v := ?_) (a' := ?_) #[true, true, true, false, false, false, false, false, false, false, false, false] rfl rfl (any_of HT_.out (by kernel_rfl)) (fun _ _ _ h => h) (Or.inl ⟨by rfl, ?_⟩) ?_ ?_
 rotate_left
 ·intro w'
  go_simp
  with_reducible rfl
 rotate_left
 ·simp only [Act.put, List.setIfInBounds_toArray, List.set_cons_zero, List.set_cons_succ, i64_w]
  rfl
 refine take_ (i := 4) (N := some 37) (v := ?_) (a' := ?_) #[true, true, true, false, true, false, false, false, false, false, false, false] rfl rfl (take_ofW HT_.out HW_.out (by kernel_rfl)) (fun _ _ _ h => h) (Or.inl ⟨by rfl, ?_⟩) hHeld ?_ ?_
 rotate_left
 ·rintro w' ⟨s0, s1, s2, s3, s4, s5, s6, s7, s8, s9, s10⟩
  go_simp
  with_reducible rfl
 rotate_left
 ·simp only [Act.put, List.setIfInBounds_toArray, List.set_cons_zero, List.set_cons_succ, i64_w]
  rfl
 refine two_ (i := 3) (j := 9) (Ni := some 36) (Nj := some 6) #[true, true, true, true, true, false, false, false, false, false, false, false] #[true, true, true, false, true, false, false, false, false, true, false, false] rfl rfl rfl rfl (two_of HT_.out (by kernel_rfl)) (by decide) (by decide) (fun K hK => ?_) (fun K hK => ?_)
 ·refine goes_ Tryd.func8 (by kernel_rfl) rfl #[.agg #[.slice (some ⟨gb, 0, none⟩) 1 1], .agg #[.slice (some ⟨gd, 0, none⟩) 1 1, .int .i64 0, .int .i64 0, .slice none 0 0, .int .i64 0, .string ByteArray.empty, .slice none 0 0], .slice (some ⟨gt, 0, none⟩) 3 ct] (by rfl) rfl rfl (by first | rfl | (simp [Act.eval]; done) | (go_simp; done) | simp [Act.eval, *]) ?_
  refine (code_Compile (some ⟨gd, 0, none⟩) 1 awIts 0 0 none 0 [] 0 ByteArray.empty none 0 [] (some ⟨gb, 0, none⟩) 1 awTypes (some ⟨gt, 0, none⟩) ct awTree W19 (HGK.out.below HB.out) (aw_query BK_gc.out BK_gd.out) (aw_types BK_ga.out BK_gb.out) (Nat.le_refl _) (by decide) (Kd.C_below HT.out HJ.out) (by decide)).mono ?_
  rintro e W20 ⟨vc, vl, rfl, hRc, hSl, hb⟩
  obtain ⟨Ac, cc, rfl⟩ := Kd.R_slice hRc
  obtain ⟨Al, cl, rfl⟩ := Kd.S_slice hSl
  have HRc := am (Kd.R_reads' hRc).2.2
  have HSl := am (Kd.R_reads' (Kd.S_R hSl)).2.2
  clear hRc hSl
  replace HB := bs HB hb
  (try clear c_ga)
  replace BK_ga := bb BK_ga hb
  have c_ga := cf1 BK_ga
  (try clear c_gb)
  replace BK_gb := bb BK_gb hb
  have c_gb := cf2 BK_gb
  (try clear c_g1)
  replace BK_g1 := bb BK_g1 hb
  have c_g1 := cf1 BK_g1
  (try clear c_gc)
  replace BK_gc := bb BK_gc hb
  have c_gc := cf1 BK_gc
  (try clear c_gd)
  replace BK_gd := bb BK_gd hb
  have c_gd := cf5 BK_gd
  (try clear c_g2)
  replace BK_g2 := bb BK_g2 hb
  have c_g2 := cf7 BK_g2
  (try clear c_gv)
  replace BK_gv := bb BK_gv hb
  have c_gv := cf11 BK_gv
  (try clear c_gl)
  replace BK_gl := bb BK_gl hb
  have c_gl := cf1 BK_gl
  (try clear c_g4)
  replace BK_g4 := bb BK_g4 hb
  have c_g4 := cf3 BK_g4
  (try clear c_g5)
  replace BK_g5 := bb BK_g5 hb
  have c_g5 := cf2 BK_g5
  replace HJ := bs HJ hb
  clear hb
  (try clear c_ga)
  (try clear c_gb)
  (try clear c_g1)
  (try clear c_gc)
  (try clear c_gd)
  (try clear c_g2)
  (try clear c_gv)
  (try clear c_gl)
  (try clear c_g4)
  (try clear c_g5)
  refine ⟨_, rfl, ?_⟩
  refine hK.out _ _ ⟨(blk_cell BK_g1.out 0).trans rfl, (blk_cell BK_g2.out 0).trans rfl, (blk_cell BK_g2.out 1).trans rfl, (blk_cell BK_g2.out 2).trans rfl, (blk_cell BK_g2.out 3).trans rfl, (blk_cell BK_g2.out 4).trans rfl, (blk_cell BK_g2.out 5).trans rfl, (blk_cell BK_g2.out 6).trans rfl, (blk_cell BK_g4.out 0).trans rfl, (blk_cell BK_g4.out 1).trans rfl, (blk_cell BK_g4.out 2).trans rfl⟩ (fun hHeld => ?_)
  clear hK K
  refine norm_ (a' := ?_) ?_ ?_
  rotate_left
  ·show Act.put _ (some 36) _ = _
   simp only [Act.put, List.setIfInBounds_toArray, List.set_cons_zero, List.set_cons_succ, i64_w]
   rfl
  refine two_ (i := 5) (j := 9) (Ni := some 38) (Nj := some 6) #[true, true, true, true, true, true, false, false, false, false, false, false] #[true, true, true, true, true, false, false, false, false, true, false, false] rfl rfl rfl rfl (two_of HT_.out (by kernel_rfl)) (by decide) (by decide) (fun K hK => ?_) (fun K hK => ?_)
  ·refine goes_ Tryd.func10 (by kernel_rfl) rfl #[.agg #[.slice Ac (compV awTypes awIts awTree).1.length cc, .slice Al (compV awTypes awIts awTree).2.length cl], .agg #[.slice (some ⟨gl, 0, none⟩) 1 1, .int .i64 (-1), .int .i64 0]] (by rfl) rfl rfl (by first | rfl | (simp [Act.eval]; done) | (go_simp; done) | simp [Act.eval, *]) ?_
   refine (run_is Ac cc (compV awTypes awIts awTree).1 Al cl (compV awTypes awIts awTree).2 (some ⟨gl, 0, none⟩) 1 [[awEv]] (-1) 0 W20 (HG.out.below HB.out) HRc.out HSl.out (aw_lists BK_gv.out BK_gl.out) (by intro l hl; rw [List.mem_singleton] at hl; subst hl; decide) (by decide) (by decide) (by rw [aw_comp]; decide) true 6 0 aw_run).mono ?_
   rintro e W21 ⟨rfl, hb⟩
   replace HB := bs HB hb
   (try clear c_ga)
   replace BK_ga := bb BK_ga hb
   have c_ga := cf1 BK_ga
   (try clear c_gb)
   replace BK_gb := bb BK_gb hb
   have c_gb := cf2 BK_gb
   (try clear c_g1)
   replace BK_g1 := bb BK_g1 hb
   have c_g1 := cf1 BK_g1
   (try clear c_gc)
   replace BK_gc := bb BK_gc hb
   have c_gc := cf1 BK_gc
   (try clear c_gd)
   replace BK_gd := bb BK_gd hb
   have c_gd := cf5 BK_gd
   (try clear c_g2)
   replace BK_g2 := bb BK_g2 hb
   have c_g2 := cf7 BK_g2
   (try clear c_gv)
   replace BK_gv := bb BK_gv hb
   have c_gv := cf11 BK_gv
   (try clear c_gl)
   replace BK_gl := bb BK_gl hb
   have c_gl := cf1 BK_gl
   (try clear c_g4)
   replace BK_g4 := bb BK_g4 hb
   have c_g4 := cf3 BK_g4
   (try clear c_g5)
   replace BK_g5 := bb BK_g5 hb
   have c_g5 := cf2 BK_g5
   replace HJ := bs HJ hb
   replace HRc := bC HRc hb
   replace HSl := bC HSl hb
   clear hb
   (try clear c_ga)
   (try clear c_gb)
   (try clear c_g1)
   (try clear c_gc)
   (try clear c_gd)
   (try clear c_g2)
   (try clear c_gv)
   (try clear c_gl)
   (try clear c_g4)
   (try clear c_g5)
   refine ⟨_, rfl, ?_⟩
   refine hK.out _ _ ⟨(blk_cell BK_g1.out 0).trans rfl, (blk_cell BK_g2.out 0).trans rfl, (blk_cell BK_g2.out 1).trans rfl, (blk_cell BK_g2.out 2).trans rfl, (blk_cell BK_g2.out 3).trans rfl, (blk_cell BK_g2.out 4).trans rfl, (blk_cell BK_g2.out 5).trans rfl, (blk_cell BK_g2.out 6).trans rfl, (blk_cell BK_g4.out 0).trans rfl, (blk_cell BK_g4.out 1).trans rfl, (blk_cell BK_g4.out 2).trans rfl⟩ (fun hHeld => ?_)
   clear hK K
   refine norm_ (a' := ?_) ?_ ?_
   rotate_left
   ·show Act.put _ (some 38) _ = _
    simp only [Act.put, List.setIfInBounds_toArray, List.set_cons_zero, List.set_cons_succ, i64_w]
    rfl
   refine pure_ (i := 6) (N := some 32) (v := ?_) (a' := ?_) #[true, true, true, true, true, true, true, false, false, false, false, false] rfl rfl (any_of HT_.out (by kernel_rfl)) (fun _ _ _ h => h) (Or.inl ⟨by rfl, ?_⟩) ?_ ?_
   rotate_left
   ·intro w'
    go_simp
    with_reducible rfl
   rotate_left
   ·simp only [Act.put, List.setIfInBounds_toArray, List.set_cons_zero, List.set_cons_succ, i64_w]
    rfl
   refine pure_ (i := 7) (N := some 39) (v := ?_) (a' := ?_) #[true, true, true, true, true, true, true, true, false, false, false, false] rfl rfl (any_of HT_.out (by kernel_rfl)) (fun _ _ _ h => h) (Or.inl ⟨by rfl, ?_⟩) ?_ ?_
   rotate_left
   ·intro w'
    go_simp
    with_reducible rfl
   rotate_left
   ·simp only [Act.put, List.setIfInBounds_toArray, List.set_cons_zero, List.set_cons_succ, i64_w]
    rfl
   refine pure_ (i := 8) (N := some 40) (v := ?_) (a' := ?_) #[true, true, true, true, true, true, true, true, true, false, false, false] rfl rfl (any_of HT_.out (by kernel_rfl)) (fun _ _ _ h => h) (Or.inl ⟨by rfl, ?_⟩) ?_ ?_
   rotate_left
   ·intro w'
    go_simp
    with_reducible rfl
   rotate_left
   ·simp only [Act.put, List.setIfInBounds_toArray, List.set_cons_zero, List.set_cons_succ, i64_w]
    rfl
   refine one_ (i := 9) (N := some 6) #[true, true, true, true, true, true, true, true, true, true, false, false] rfl rfl (one_of HT_.out (by kernel_rfl)) (by decide) (fun K hK => ?_)
   refine value_ (w1 := ?_) (v := ?_) (by rfl) rfl ?_ ?_
   rotate_left 2
   ·go_simp
    constructor
    ·rfl
    rfl
   refine hK.out _ _ ⟨(blk_cell (blk_alloc BK_g1.out _) 0).trans rfl, (blk_cell (blk_alloc BK_g2.out _) 0).trans rfl, (blk_cell (blk_alloc BK_g2.out _) 1).trans rfl, (blk_cell (blk_alloc BK_g2.out _) 2).trans rfl, (blk_cell (blk_alloc BK_g2.out _) 3).trans rfl, (blk_cell (blk_alloc BK_g2.out _) 4).trans rfl, (blk_cell (blk_alloc BK_g2.out _) 5).trans rfl, (blk_cell (blk_alloc BK_g2.out _) 6).trans rfl, (blk_cell (blk_alloc BK_g4.out _) 0).trans rfl, (blk_cell (blk_alloc BK_g4.out _) 1).trans rfl, (blk_cell (blk_alloc BK_g4.out _) 2).trans rfl⟩ (fun hHeld => ?_)
   clear hK K
   refine norm_ (a' := ?_) ?_ ?_
   rotate_left
   ·show Act.put _ (some 6) _ = _
    simp only [Act.put, List.setIfInBounds_toArray, List.set_cons_zero, List.set_cons_succ, i64_w]
    rfl
   have hb := (Below.refl W21.heap.size W21).alloc (Nat.le_refl _) (.cells #[.bool false, .int .i64 0] 50)
   have hbox := blk_new W21 (.cells #[.bool false, .int .i64 0] 50)
   obtain ⟨g6, hg_⟩ : ∃ g6, g6 = W21.heap.size := ⟨_, rfl⟩
   rw [← hg_] at hbox ⊢
   generalize W21.alloc (.cells #[.bool false, .int .i64 0] 50) = W22 at hb hbox hHeld ⊢
   have GE_g6 := ge1 hg_ HB
   have GJ_g6 := ge1 hg_ HJ
   have NE_g6_ga := ne1 hg_ BK_ga
   have NE_ga_g6 := ne2 NE_g6_ga
   have NE_g6_gb := ne1 hg_ BK_gb
   have NE_gb_g6 := ne2 NE_g6_gb
   have NE_g6_g1 := ne1 hg_ BK_g1
   have NE_g1_g6 := ne2 NE_g6_g1
   have NE_g6_gc := ne1 hg_ BK_gc
   have NE_gc_g6 := ne2 NE_g6_gc
   have NE_g6_gd := ne1 hg_ BK_gd
   have NE_gd_g6 := ne2 NE_g6_gd
   have NE_g6_g2 := ne1 hg_ BK_g2
   have NE_g2_g6 := ne2 NE_g6_g2
   have NE_g6_gv := ne1 hg_ BK_gv
   have NE_gv_g6 := ne2 NE_g6_gv
   have NE_g6_gl := ne1 hg_ BK_gl
   have NE_gl_g6 := ne2 NE_g6_gl
   have NE_g6_g4 := ne1 hg_ BK_g4
   have NE_g4_g6 := ne2 NE_g6_g4
   have NE_g6_g5 := ne1 hg_ BK_g5
   have NE_g5_g6 := ne2 NE_g6_g5
   replace HB := bs HB hb
   (try clear c_ga)
   replace BK_ga := bb BK_ga hb
   have c_ga := cf1 BK_ga
   (try clear c_gb)
   replace BK_gb := bb BK_gb hb
   have c_gb := cf2 BK_gb
   (try clear c_g1)
   replace BK_g1 := bb BK_g1 hb
   have c_g1 := cf1 BK_g1
   (try clear c_gc)
   replace BK_gc := bb BK_gc hb
   have c_gc := cf1 BK_gc
   (try clear c_gd)
   replace BK_gd := bb BK_gd hb
   have c_gd := cf5 BK_gd
   (try clear c_g2)
   replace BK_g2 := bb BK_g2 hb
   have c_g2 := cf7 BK_g2
   (try clear c_gv)
   replace BK_gv := bb BK_gv hb
   have c_gv := cf11 BK_gv
   (try clear c_gl)
   replace BK_gl := bb BK_gl hb
   have c_gl := cf1 BK_gl
   (try clear c_g4)
   replace BK_g4 := bb BK_g4 hb
   have c_g4 := cf3 BK_g4
   (try clear c_g5)
   replace BK_g5 := bb BK_g5 hb
   have c_g5 := cf2 BK_g5
   replace HJ := bs HJ hb
   replace HRc := bC HRc hb
   replace HSl := bC HSl hb
   have BK_g6 := am hbox
   clear hb hbox hg_
   (try clear c_ga)
   (try clear c_gb)
   (try clear c_g1)
   (try clear c_gc)
   (try clear c_gd)
   (try clear c_g2)
   (try clear c_gv)
   (try clear c_gl)
   (try clear c_g4)
   (try clear c_g5)
   (try clear c_g6)
   have c0 : W22.cell? ⟨g6, 0, none⟩ = some (.bool false) := (blk_cell BK_g6.out 0).trans rfl
   have c1 : W22.cell? ⟨g6, 1, none⟩ = some (.int .i64 0) := (blk_cell BK_g6.out 1).trans rfl
   have f0 := blk_frozen BK_g6.out 0
   have f1 := blk_frozen BK_g6.out 1
   refine last_ (i := 10) (N := none) #[true, true, true, true, true, true, true, true, true, true, true, false] rfl rfl (one_of HT_.out (by kernel_rfl)) (by decide) (fun K hK => ?_)
   refine skip_ (w1 := ?_) (by rfl) rfl ?_ ?_
   rotate_left
   ·go_simp
    rfl
   refine hK.out _ _ ?_
   clear hK K
   clear c0 c1 f0 f1
   refine pure_ (i := 11) (N := some 7) (v := ?_) (a' := ?_) #[true, true, true, true, true, true, true, true, true, true, true, true] rfl rfl (any_of HT_.out (by kernel_rfl)) (fun _ _ _ h => h) (Or.inl ⟨by rfl, ?_⟩) ?_ ?_
   rotate_left
   ·intro w'
    go_simp
    with_reducible rfl
   rotate_left
   ·simp only [Act.put, List.setIfInBounds_toArray, List.set_cons_zero, List.set_cons_succ, i64_w]
    rfl
   refine done_ (done_of HT_.out (by kernel_rfl)) ?_
   generalize hWQ : (W22.setCell ⟨g6, 0, none⟩ (.bool true)).setCell ⟨g6, 1, none⟩ (.int .i64 6) = WQ
   have HBq := am (show Below w.heap.size w WQ from by rw [← hWQ]; exact below_set (below_set HB.out GE_g6.out) GE_g6.out)
   have HJq := am (show Below W11.heap.size W11 WQ from by rw [← hWQ]; exact below_set (below_set HJ.out GJ_g6.out) GJ_g6.out)
   have BQ_ga : Aside0 (WQ.heap[ga]? = some (.cells #[.string (⟨#[120]⟩ : ByteArray)] 9 (0, 0))) := ⟨by rw [← hWQ]; exact blk_far (blk_far BK_ga.out NE_ga_g6 _) NE_ga_g6 _⟩
   have BQ_gb : Aside0 (WQ.heap[gb]? = some (.cells #[.string (⟨#[65]⟩ : ByteArray), .slice (some ⟨ga, 0, none⟩) 1 1] 65 (0, 0))) := ⟨by rw [← hWQ]; exact blk_far (blk_far BK_gb.out NE_gb_g6 _) NE_gb_g6 _⟩
   have BQ_g1 : Aside0 (WQ.heap[g1]? = some (.cells #[.slice (some ⟨gb, 0, none⟩) 1 1] 24 (0, 0))) := ⟨by rw [← hWQ]; exact blk_far (blk_far BK_g1.out NE_g1_g6 _) NE_g1_g6 _⟩
   have BQ_gc : Aside0 (WQ.heap[gc]? = some (.cells #[.string (⟨#[65]⟩ : ByteArray)] 9 (0, 0))) := ⟨by rw [← hWQ]; exact blk_far (blk_far BK_gc.out NE_gc_g6 _) NE_gc_g6 _⟩
   have BQ_gd : Aside0 (WQ.heap[gd]? = some (.cells #[.bool false, .slice (some ⟨gc, 0, none⟩) 1 1, .string (⟨#[97]⟩ : ByteArray), .int .i64 1, .int .i64 1] 67 (0, 0))) := ⟨by rw [← hWQ]; exact blk_far (blk_far BK_gd.out NE_gd_g6 _) NE_gd_g6 _⟩
   have BQ_g2 : Aside0 (WQ.heap[g2]? = some (.cells #[.slice (some ⟨gd, 0, none⟩) 1 1, .int .i64 0, .int .i64 0, .slice none 0 0, .int .i64 0, .string ByteArray.empty, .slice none 0 0] 31 (0, 0))) := ⟨by rw [← hWQ]; exact blk_far (blk_far BK_g2.out NE_g2_g6 _) NE_g2_g6 _⟩
   have BQ_gv : Aside0 (WQ.heap[gv]? = some (.cells #[.int .i64 1, .int .u64 0, .int .i64 0, .int .i64 7, .int .i64 0, .int .i64 0, .int .i64 0, .int .i64 0, .int .i64 0, .int .i64 0, .int .i64 0] 73 (0, 0))) := ⟨by rw [← hWQ]; exact blk_far (blk_far BK_gv.out NE_gv_g6 _) NE_gv_g6 _⟩
   have BQ_gl : Aside0 (WQ.heap[gl]? = some (.cells #[.slice (some ⟨gv, 0, none⟩) 1 1] 62 (0, 0))) := ⟨by rw [← hWQ]; exact blk_far (blk_far BK_gl.out NE_gl_g6 _) NE_gl_g6 _⟩
   have BQ_g4 : Aside0 (WQ.heap[g4]? = some (.cells #[.slice (some ⟨gl, 0, none⟩) 1 1, .int .i64 (-1), .int .i64 0] 34 (0, 0))) := ⟨by rw [← hWQ]; exact blk_far (blk_far BK_g4.out NE_g4_g6 _) NE_g4_g6 _⟩
   have BQ_g5 : Aside0 (WQ.heap[g5]? = some (.cells #[.bool true, .int .i64 6] 50 (0, 0))) := ⟨by rw [← hWQ]; exact blk_far (blk_far BK_g5.out NE_g5_g6 _) NE_g5_g6 _⟩
   have BQ_g6 : Aside0 (WQ.heap[g6]? = some (.cells #[.bool true, .int .i64 6] 50 (0, 0))) := ⟨by rw [← hWQ]; exact blk_put (cs := #[.bool true, .int .i64 0]) (blk_put (cs := #[.bool false, .int .i64 0]) BK_g6.out 0 _ rfl) 1 _ rfl⟩
   clear hWQ HB HJ HRc HSl BK_ga BK_gb BK_g1 BK_gc BK_gd BK_g2 BK_gv BK_gl BK_g4 BK_g5 BK_g6
   have HB := HBq
   have HJ := HJq
   have BK_ga := BQ_ga
   have BK_gb := BQ_gb
   have BK_g1 := BQ_g1
   have BK_gc := BQ_gc
   have BK_gd := BQ_gd
   have BK_g2 := BQ_g2
   have BK_gv := BQ_gv
   have BK_gl := BQ_gl
   have BK_g4 := BQ_g4
   have BK_g5 := BQ_g5
   have BK_g6 := BQ_g6
   clear HBq HJq BQ_ga BQ_gb BQ_g1 BQ_gc BQ_gd BQ_g2 BQ_gv BQ_gl BQ_g4 BQ_g5 BQ_g6
   go_wp2_with (first | ((with_reducible refine gate_dst (N := 8) rfl ?_); refine box_event ?hg (N := 8) ?hd (cs := #[.bool false, .int .i64 0]) (t := 50) ?hr ?_; (case hd => rfl); (case hg => rfl); (case hr => first | (go_simp; done) | (go_simp; rfl)); intro g8 hg_ W24 hbox hb; have GJ_g8 := ge1 hg_ HJ; have GE_g8 := ge1 hg_ HB; have NE_g8_ga := ne1 hg_ BK_ga; have NE_ga_g8 := ne2 NE_g8_ga; have NE_g8_gb := ne1 hg_ BK_gb; have NE_gb_g8 := ne2 NE_g8_gb; have NE_g8_g1 := ne1 hg_ BK_g1; have NE_g1_g8 := ne2 NE_g8_g1; have NE_g8_gc := ne1 hg_ BK_gc; have NE_gc_g8 := ne2 NE_g8_gc; have NE_g8_gd := ne1 hg_ BK_gd; have NE_gd_g8 := ne2 NE_g8_gd; have NE_g8_g2 := ne1 hg_ BK_g2; have NE_g2_g8 := ne2 NE_g8_g2; have NE_g8_gv := ne1 hg_ BK_gv; have NE_gv_g8 := ne2 NE_g8_gv; have NE_g8_gl := ne1 hg_ BK_gl; have NE_gl_g8 := ne2 NE_g8_gl; have NE_g8_g4 := ne1 hg_ BK_g4; have NE_g4_g8 := ne2 NE_g8_g4; have NE_g8_g5 := ne1 hg_ BK_g5; have NE_g5_g8 := ne2 NE_g8_g5; have NE_g8_g6 := ne1 hg_ BK_g6; have NE_g6_g8 := ne2 NE_g8_g6; replace HB := bs HB hb; (try clear c_ga); replace BK_ga := bb BK_ga hb; have c_ga := cf1 BK_ga; (try clear c_gb); replace BK_gb := bb BK_gb hb; have c_gb := cf2 BK_gb; (try clear c_g1); replace BK_g1 := bb BK_g1 hb; have c_g1 := cf1 BK_g1; (try clear c_gc); replace BK_gc := bb BK_gc hb; have c_gc := cf1 BK_gc; (try clear c_gd); replace BK_gd := bb BK_gd hb; have c_gd := cf5 BK_gd; (try clear c_g2); replace BK_g2 := bb BK_g2 hb; have c_g2 := cf7 BK_g2; (try clear c_gv); replace BK_gv := bb BK_gv hb; have c_gv := cf11 BK_gv; (try clear c_gl); replace BK_gl := bb BK_gl hb; have c_gl := cf1 BK_gl; (try clear c_g4); replace BK_g4 := bb BK_g4 hb; have c_g4 := cf3 BK_g4; (try clear c_g5); replace BK_g5 := bb BK_g5 hb; have c_g5 := cf2 BK_g5; (try clear c_g6); replace BK_g6 := bb BK_g6 hb; have c_g6 := cf2 BK_g6; replace HJ := bs HJ hb; have BK_g8 := am hbox; have c_g8 := cf2 BK_g8; clear hb hbox hg_) | ((with_reducible refine gate_store (t := 50) (p := 8) rfl ?_); refine store_event (t := 50) (p := 8) (v := ?vo_W25_9) (w1 := ?w1_W25_10) ?hg ?ho ?hn ?hr ?_; (case ho => rfl); (case hg => rfl); (case hn => rfl); (case hr => first | (go_simp; done) | (go_simp; rfl)); intro W25 hw; have hk := kb2 hw; replace HJ := sb2 HJ GJ_g8 hw; replace HB := sb2 HB GE_g8 hw; (try clear c_ga); replace BK_ga := bk BK_ga hk NE_ga_g8; have c_ga := cf1 BK_ga; (try clear c_gb); replace BK_gb := bk BK_gb hk NE_gb_g8; have c_gb := cf2 BK_gb; (try clear c_g1); replace BK_g1 := bk BK_g1 hk NE_g1_g8; have c_g1 := cf1 BK_g1; (try clear c_gc); replace BK_gc := bk BK_gc hk NE_gc_g8; have c_gc := cf1 BK_gc; (try clear c_gd); replace BK_gd := bk BK_gd hk NE_gd_g8; have c_gd := cf5 BK_gd; (try clear c_g2); replace BK_g2 := bk BK_g2 hk NE_g2_g8; have c_g2 := cf7 BK_g2; (try clear c_gv); replace BK_gv := bk BK_gv hk NE_gv_g8; have c_gv := cf11 BK_gv; (try clear c_gl); replace BK_gl := bk BK_gl hk NE_gl_g8; have c_gl := cf1 BK_gl; (try clear c_g4); replace BK_g4 := bk BK_g4 hk NE_g4_g8; have c_g4 := cf3 BK_g4; (try clear c_g5); replace BK_g5 := bk BK_g5 hk NE_g5_g8; have c_g5 := cf2 BK_g5; (try clear c_g6); replace BK_g6 := bk BK_g6 hk NE_g6_g8; have c_g6 := cf2 BK_g6; (try clear c_g8); replace BK_g8 := bp2 BK_g8 hw; have c_g8 := cf2 BK_g8; clear hk hw))
   refine start_ (n := 21) (S := fun w' => w'.cell? ⟨g1, 0, none⟩ = some (.slice (some ⟨gb, 0, none⟩) 1 1) ∧ w'.cell? ⟨g2, 0, none⟩ = some (.slice (some ⟨gd, 0, none⟩) 1 1) ∧ w'.cell? ⟨g2, 1, none⟩ = some (.int .i64 0) ∧ w'.cell? ⟨g2, 2, none⟩ = some (.int .i64 0) ∧ w'.cell? ⟨g2, 3, none⟩ = some (.slice none 0 0) ∧ w'.cell? ⟨g2, 4, none⟩ = some (.int .i64 0) ∧ w'.cell? ⟨g2, 5, none⟩ = some (.string ByteArray.empty) ∧ w'.cell? ⟨g2, 6, none⟩ = some (.slice none 0 0) ∧ w'.cell? ⟨g4, 0, none⟩ = some (.slice (some ⟨gl, 0, none⟩) 1 1) ∧ w'.cell? ⟨g4, 1, none⟩ = some (.int .i64 (-1)) ∧ w'.cell? ⟨g4, 2, none⟩ = some (.int .i64 0) ∧ w'.cell? ⟨g5, 0, none⟩ = some (.bool true) ∧ w'.cell? ⟨g5, 1, none⟩ = some (.int .i64 6) ∧ w'.cell? ⟨g6, 0, none⟩ = some (.bool true) ∧ w'.cell? ⟨g6, 1, none⟩ = some (.int .i64 6) ∧ w'.cell? ⟨g8, 0, none⟩ = some (.bool true) ∧ w'.cell? ⟨g8, 1, none⟩ = some (.int .i64 6)) (ds := []) #[false, false, false, false, false, false, false, false, false, false, false, false, false, false, false, false, false, false, false, false, false] (by kernel_rfl) rfl rfl ⟨(blk_cell BK_g1.out 0).trans rfl, (blk_cell BK_g2.out 0).trans rfl, (blk_cell BK_g2.out 1).trans rfl, (blk_cell BK_g2.out 2).trans rfl, (blk_cell BK_g2.out 3).trans rfl, (blk_cell BK_g2.out 4).trans rfl, (blk_cell BK_g2.out 5).trans rfl, (blk_cell BK_g2.out 6).trans rfl, (blk_cell BK_g4.out 0).trans rfl, (blk_cell BK_g4.out 1).trans rfl, (blk_cell BK_g4.out 2).trans rfl, (blk_cell BK_g5.out 0).trans rfl, (blk_cell BK_g5.out 1).trans rfl, (blk_cell BK_g6.out 0).trans rfl, (blk_cell BK_g6.out 1).trans rfl, (blk_cell BK_g8.out 0).trans rfl, (blk_cell BK_g8.out 1).trans rfl⟩ (fun hHeld => ?_)
   refine with_tabW aw_q.tab aw_q.bits (fun HT_ HW_ => ?_)
   (try clear c_ga)
   (try clear c_gb)
   (try clear c_g1)
   (try clear c_gc)
   (try clear c_gd)
   (try clear c_g2)
   (try clear c_gv)
   (try clear c_gl)
   (try clear c_g4)
   (try clear c_g5)
   (try clear c_g6)
   (try clear c_g8)
   have hb := below_drew1 (Below.refl W25.heap.size W25)
   generalize W25.drew = W26 at hHeld hb ⊢
   replace HB := bs HB hb
   (try clear c_ga)
   replace BK_ga := bb BK_ga hb
   have c_ga := cf1 BK_ga
   (try clear c_gb)
   replace BK_gb := bb BK_gb hb
   have c_gb := cf2 BK_gb
   (try clear c_g1)
   replace BK_g1 := bb BK_g1 hb
   have c_g1 := cf1 BK_g1
   (try clear c_gc)
   replace BK_gc := bb BK_gc hb
   have c_gc := cf1 BK_gc
   (try clear c_gd)
   replace BK_gd := bb BK_gd hb
   have c_gd := cf5 BK_gd
   (try clear c_g2)
   replace BK_g2 := bb BK_g2 hb
   have c_g2 := cf7 BK_g2
   (try clear c_gv)
   replace BK_gv := bb BK_gv hb
   have c_gv := cf11 BK_gv
   (try clear c_gl)
   replace BK_gl := bb BK_gl hb
   have c_gl := cf1 BK_gl
   (try clear c_g4)
   replace BK_g4 := bb BK_g4 hb
   have c_g4 := cf3 BK_g4
   (try clear c_g5)
   replace BK_g5 := bb BK_g5 hb
   have c_g5 := cf2 BK_g5
   (try clear c_g6)
   replace BK_g6 := bb BK_g6 hb
   have c_g6 := cf2 BK_g6
   (try clear c_g8)
   replace BK_g8 := bb BK_g8 hb
   have c_g8 := cf2 BK_g8
   replace HJ := bs HJ hb
   clear hb
   (try clear c_ga)
   (try clear c_gb)
   (try clear c_g1)
   (try clear c_gc)
   (try clear c_gd)
   (try clear c_g2)
   (try clear c_gv)
   (try clear c_gl)
   (try clear c_g4)
   (try clear c_g5)
   (try clear c_g6)
   (try clear c_g8)
   refine take_ (i := 0) (N := some 42) (v := ?_) (a' := ?_) #[true, false, false, false, false, false, false, false, false, false, false, false, false, false, false, false, false, false, false, false, false] rfl rfl (take_ofW HT_.out HW_.out (by kernel_rfl)) (fun _ _ _ h => h) (Or.inl ⟨by rfl, ?_⟩) hHeld ?_ ?_
   rotate_left
   ·rintro w' ⟨s0, s1, s2, s3, s4, s5, s6, s7, s8, s9, s10, s11, s12, s13, s14, s15, s16⟩
    go_simp
    with_reducible rfl
   rotate_left
   ·simp only [Act.put, List.setIfInBounds_toArray, List.set_cons_zero, List.set_cons_succ, i64_w]
    rfl
   refine take_ (i := 1) (N := some 43) (v := ?_) (a' := ?_) #[true, true, false, false, false, false, false, false, false, false, false, false, false, false, false, false, false, false, false, false, false] rfl rfl (take_ofW HT_.out HW_.out (by kernel_rfl)) (fun _ _ _ h => h) (Or.inl ⟨by rfl, ?_⟩) hHeld ?_ ?_
   rotate_left
   ·rintro w' ⟨s0, s1, s2, s3, s4, s5, s6, s7, s8, s9, s10, s11, s12, s13, s14, s15, s16⟩
    go_simp
    with_reducible rfl
   rotate_left
   ·simp only [Act.put, List.setIfInBounds_toArray, List.set_cons_zero, List.set_cons_succ, i64_w]
    rfl
   refine pure_ (i := 2) (N := some 44) (v := ?_) (a' := ?_) #[true, true, true, false, false, false, false, false, false, false, false, false, false, false, false, false, false, false, false, false, false] rfl rfl (any_of HT_.out (by kernel_rfl)) (fun _ _ _ h => h) (Or.inl ⟨by rfl, ?_⟩) ?_ ?_
   rotate_left
   ·intro w'
    go_simp
    with_reducible rfl
   rotate_left
   ·simp only [Act.put, List.setIfInBounds_toArray, List.set_cons_zero, List.set_cons_succ, i64_w]
    rfl
   refine pure_ (i := 3) (N := some 45) (v := ?_) (a' := ?_) #[true, true, true, true, false, false, false, false, false, false, false, false, false, false, false, false, false, false, false, false, false] rfl rfl (any_of HT_.out (by kernel_rfl)) (fun _ _ _ h => h) (Or.inl ⟨by rfl, ?_⟩) ?_ ?_
   rotate_left
   ·intro w'
    go_simp
    with_reducible rfl
   rotate_left
   ·simp only [Act.put, List.setIfInBounds_toArray, List.set_cons_zero, List.set_cons_succ, i64_w]
    rfl
   refine take_ (i := 4) (N := some 46) (v := ?_) (a' := ?_) #[true, true, true, true, true, false, false, false, false, false, false, false, false, false, false, false, false, false, false, false, false] rfl rfl (take_ofW HT_.out HW_.out (by kernel_rfl)) (fun _ _ _ h => h) (Or.inl ⟨by rfl, ?_⟩) hHeld ?_ ?_
   rotate_left
   ·rintro w' ⟨s0, s1, s2, s3, s4, s5, s6, s7, s8, s9, s10, s11, s12, s13, s14, s15, s16⟩
    go_simp
    with_reducible rfl
   rotate_left
   ·simp only [Act.put, List.setIfInBounds_toArray, List.set_cons_zero, List.set_cons_succ, i64_w]
    rfl
   refine take_ (i := 5) (N := some 47) (v := ?_) (a' := ?_) #[true, true, true, true, true, true, false, false, false, false, false, false, false, false, false, false, false, false, false, false, false] rfl rfl (take_ofW HT_.out HW_.out (by kernel_rfl)) (fun _ _ _ h => h) (Or.inl ⟨by rfl, ?_⟩) hHeld ?_ ?_
   rotate_left
   ·rintro w' ⟨s0, s1, s2, s3, s4, s5, s6, s7, s8, s9, s10, s11, s12, s13, s14, s15, s16⟩
    go_simp
    with_reducible rfl
   rotate_left
   ·simp only [Act.put, List.setIfInBounds_toArray, List.set_cons_zero, List.set_cons_succ, i64_w]
    rfl
   refine pure_ (i := 6) (N := some 48) (v := ?_) (a' := ?_) #[true, true, true, true, true, true, true, false, false, false, false, false, false, false, false, false, false, false, false, false, false] rfl rfl (any_of HT_.out (by kernel_rfl)) (fun _ _ _ h => h) (Or.inl ⟨by rfl, ?_⟩) ?_ ?_
   rotate_left
   ·intro w'
    go_simp
    with_reducible rfl
   rotate_left
   ·simp only [Act.put, List.setIfInBounds_toArray, List.set_cons_zero, List.set_cons_succ, i64_w]
    rfl
   refine pure_ (i := 7) (N := some 49) (v := ?_) (a' := ?_) #[true, true, true, true, true, true, true, true, false, false, false, false, false, false, false, false, false, false, false, false, false] rfl rfl (any_of HT_.out (by kernel_rfl)) (fun _ _ _ h => h) (Or.inl ⟨by rfl, ?_⟩) ?_ ?_
   rotate_left
   ·intro w'
    go_simp
    with_reducible rfl
   rotate_left
   ·simp only [Act.put, List.setIfInBounds_toArray, List.set_cons_zero, List.set_cons_succ, i64_w]
    rfl
   refine pure_ (i := 8) (N := some 50) (v := ?_) (a' := ?_) #[true, true, true, true, true, true, true, true, true, false, false, false, false, false, false, false, false, false, false, false, false] rfl rfl (any_of HT_.out (by kernel_rfl)) (fun _ _ _ h => h) (Or.inl ⟨by rfl, ?_⟩) ?_ ?_
   rotate_left
   ·intro w'
    go_simp
    with_reducible rfl
   rotate_left
   ·simp only [Act.put, List.setIfInBounds_toArray, List.set_cons_zero, List.set_cons_succ, i64_w]
    rfl
   refine pure_ (i := 9) (N := some 51) (v := ?_) (a' := ?_) #[true, true, true, true, true, true, true, true, true, true, false, false, false, false, false, false, false, false, false, false, false] rfl rfl (any_of HT_.out (by kernel_rfl)) (fun _ _ _ h => h) (Or.inl ⟨by rfl, ?_⟩) ?_ ?_
   rotate_left
   ·intro w'
    go_simp
    with_reducible rfl
   rotate_left
   ·simp only [Act.put, List.setIfInBounds_toArray, List.set_cons_zero, List.set_cons_succ, i64_w]
    rfl
   refine pure_ (i := 10) (N := some 52) (v := ?_) (a' := ?_) #[true, true, true, true, true, true, true, true, true, true, true, false, false, false, false, false, false, false, false, false, false] rfl rfl (any_of HT_.out (by kernel_rfl)) (fun _ _ _ h => h) (Or.inl ⟨by rfl, ?_⟩) ?_ ?_
   rotate_left
   ·intro w'
    go_simp
    with_reducible rfl
   rotate_left
   ·simp only [Act.put, List.setIfInBounds_toArray, List.set_cons_zero, List.set_cons_succ, i64_w]
    rfl
   refine pure_ (i := 11) (N := some 53) (v := ?_) (a' := ?_) #[true, true, true, true, true, true, true, true, true, true, true, true, false, false, false, false, false, false, false, false, false] rfl rfl (any_of HT_.out (by kernel_rfl)) (fun _ _ _ h => h) (Or.inl ⟨by rfl, ?_⟩) ?_ ?_
   rotate_left
   ·intro w'
    go_simp
    with_reducible rfl
   rotate_left
   ·simp only [Act.put, List.setIfInBounds_toArray, List.set_cons_zero, List.set_cons_succ, i64_w]
    rfl
   refine pure_ (i := 12) (N := some 54) (v := ?_) (a' := ?_) #[true, true, true, true, true, true, true, true, true, true, true, true, true, false, false, false, false, false, false, false, false] rfl rfl (any_of HT_.out (by kernel_rfl)) (fun _ _ _ h => h) (Or.inl ⟨by rfl, ?_⟩) ?_ ?_
   rotate_left
   ·intro w'
    go_simp
    with_reducible rfl
   rotate_left
   ·simp only [Act.put, List.setIfInBounds_toArray, List.set_cons_zero, List.set_cons_succ, i64_w]
    rfl
   refine take_ (i := 13) (N := some 55) (v := ?_) (a' := ?_) #[true, true, true, true, true, true, true, true, true, true, true, true, true, true, false, false, false, false, false, false, false] rfl rfl (take_ofW HT_.out HW_.out (by kernel_rfl)) (fun _ _ _ h => h) (Or.inl ⟨by rfl, ?_⟩) hHeld ?_ ?_
   rotate_left
   ·rintro w' ⟨s0, s1, s2, s3, s4, s5, s6, s7, s8, s9, s10, s11, s12, s13, s14, s15, s16⟩
    go_simp
    with_reducible rfl
   rotate_left
   ·simp only [Act.put, List.setIfInBounds_toArray, List.set_cons_zero, List.set_cons_succ, i64_w]
    rfl
   refine take_ (i := 14) (N := some 56) (v := ?_) (a' := ?_) #[true, true, true, true, true, true, true, true, true, true, true, true, true, true, true, false, false, false, false, false, false] rfl rfl (take_ofW HT_.out HW_.out (by kernel_rfl)) (fun _ _ _ h => h) (Or.inl ⟨by rfl, ?_⟩) hHeld ?_ ?_
   rotate_left
   ·rintro w' ⟨s0, s1, s2, s3, s4, s5, s6, s7, s8, s9, s10, s11, s12, s13, s14, s15, s16⟩
    go_simp
    with_reducible rfl
   rotate_left
   ·simp only [Act.put, List.setIfInBounds_toArray, List.set_cons_zero, List.set_cons_succ, i64_w]
    rfl
   refine pure_ (i := 15) (N := some 57) (v := ?_) (a' := ?_) #[true, true, true, true, true, true, true, true, true, true, true, true, true, true, true, true, false, false, false, false, false] rfl rfl (any_of HT_.out (by kernel_rfl)) (fun _ _ _ h => h) (Or.inl ⟨by rfl, ?_⟩) ?_ ?_
   rotate_left
   ·intro w'
    go_simp
    with_reducible rfl
   rotate_left
   ·simp only [Act.put, List.setIfInBounds_toArray, List.set_cons_zero, List.set_cons_succ, i64_w]
    rfl
   refine take_ (i := 17) (N := some 59) (v := ?_) (a' := ?_) #[true, true, true, true, true, true, true, true, true, true, true, true, true, true, true, true, false, true, false, false, false] rfl rfl (take_ofW HT_.out HW_.out (by kernel_rfl)) (fun _ _ _ h => h) (Or.inl ⟨by rfl, ?_⟩) hHeld ?_ ?_
   rotate_left
   ·rintro w' ⟨s0, s1, s2, s3, s4, s5, s6, s7, s8, s9, s10, s11, s12, s13, s14, s15, s16⟩
    go_simp
    with_reducible rfl
   rotate_left
   ·simp only [Act.put, List.setIfInBounds_toArray, List.set_cons_zero, List.set_cons_succ, i64_w]
    rfl
   refine one_ (i := 16) (N := some 58) #[true, true, true, true, true, true, true, true, true, true, true, true, true, true, true, true, true, true, false, false, false] rfl rfl (one_of HT_.out (by kernel_rfl)) (by decide) (fun K hK => ?_)
   refine goes_ Tryd.func8 (by kernel_rfl) rfl #[.agg #[.slice (some ⟨gb, 0, none⟩) 1 1], .agg #[.slice (some ⟨gd, 0, none⟩) 1 1, .int .i64 0, .int .i64 0, .slice none 0 0, .int .i64 0, .string ByteArray.empty, .slice none 0 0], .slice (some ⟨gt, 0, none⟩) 3 ct] (by rfl) rfl rfl (by first | rfl | (simp [Act.eval]; done) | (go_simp; done) | simp [Act.eval, *]) ?_
   refine (code_Compile (some ⟨gd, 0, none⟩) 1 awIts 0 0 none 0 [] 0 ByteArray.empty none 0 [] (some ⟨gb, 0, none⟩) 1 awTypes (some ⟨gt, 0, none⟩) ct awTree W26 (HGK.out.below HB.out) (aw_query BK_gc.out BK_gd.out) (aw_types BK_ga.out BK_gb.out) (Nat.le_refl _) (by decide) (Kd.C_below HT.out HJ.out) (by decide)).mono ?_
   rintro e W27 ⟨vc, vl, rfl, hRc, hSl, hb⟩
   obtain ⟨Ad, cd, rfl⟩ := Kd.R_slice hRc
   obtain ⟨Am, cm, rfl⟩ := Kd.S_slice hSl
   have HRc := am (Kd.R_reads' hRc).2.2
   have HSl := am (Kd.R_reads' (Kd.S_R hSl)).2.2
   clear hRc hSl
   replace HB := bs HB hb
   (try clear c_ga)
   replace BK_ga := bb BK_ga hb
   have c_ga := cf1 BK_ga
   (try clear c_gb)
   replace BK_gb := bb BK_gb hb
   have c_gb := cf2 BK_gb
   (try clear c_g1)
   replace BK_g1 := bb BK_g1 hb
   have c_g1 := cf1 BK_g1
   (try clear c_gc)
   replace BK_gc := bb BK_gc hb
   have c_gc := cf1 BK_gc
   (try clear c_gd)
   replace BK_gd := bb BK_gd hb
   have c_gd := cf5 BK_gd
   (try clear c_g2)
   replace BK_g2 := bb BK_g2 hb
   have c_g2 := cf7 BK_g2
   (try clear c_gv)
   replace BK_gv := bb BK_gv hb
   have c_gv := cf11 BK_gv
   (try clear c_gl)
   replace BK_gl := bb BK_gl hb
   have c_gl := cf1 BK_gl
   (try clear c_g4)
   replace BK_g4 := bb BK_g4 hb
   have c_g4 := cf3 BK_g4
   (try clear c_g5)
   replace BK_g5 := bb BK_g5 hb
   have c_g5 := cf2 BK_g5
   (try clear c_g6)
   replace BK_g6 := bb BK_g6 hb
   have c_g6 := cf2 BK_g6
   (try clear c_g8)
   replace BK_g8 := bb BK_g8 hb
   have c_g8 := cf2 BK_g8
   replace HJ := bs HJ hb
   clear hb
   (try clear c_ga)
   (try clear c_gb)
   (try clear c_g1)
   (try clear c_gc)
   (try clear c_gd)
   (try clear c_g2)
   (try clear c_gv)
   (try clear c_gl)
   (try clear c_g4)
   (try clear c_g5)
   (try clear c_g6)
   (try clear c_g8)
   refine ⟨_, rfl, ?_⟩
   refine hK.out _ _ ⟨(blk_cell BK_g1.out 0).trans rfl, (blk_cell BK_g2.out 0).trans rfl, (blk_cell BK_g2.out 1).trans rfl, (blk_cell BK_g2.out 2).trans rfl, (blk_cell BK_g2.out 3).trans rfl, (blk_cell BK_g2.out 4).trans rfl, (blk_cell BK_g2.out 5).trans rfl, (blk_cell BK_g2.out 6).trans rfl, (blk_cell BK_g4.out 0).trans rfl, (blk_cell BK_g4.out 1).trans rfl, (blk_cell BK_g4.out 2).trans rfl, (blk_cell BK_g5.out 0).trans rfl, (blk_cell BK_g5.out 1).trans rfl, (blk_cell BK_g6.out 0).trans rfl, (blk_cell BK_g6.out 1).trans rfl, (blk_cell BK_g8.out 0).trans rfl, (blk_cell BK_g8.out 1).trans rfl⟩ (fun hHeld => ?_)
   clear hK K
   refine norm_ (a' := ?_) ?_ ?_
   rotate_left
   ·show Act.put _ (some 58) _ = _
    simp only [Act.put, List.setIfInBounds_toArray, List.set_cons_zero, List.set_cons_succ, i64_w]
    rfl
   refine one_ (i := 18) (N := some 60) #[true, true, true, true, true, true, true, true, true, true, true, true, true, true, true, true, true, true, true, false, false] rfl rfl (one_of HT_.out (by kernel_rfl)) (by decide) (fun K hK => ?_)
   refine goes_ Tryd.func17 (by kernel_rfl) rfl #[.agg #[.slice Ad (compV awTypes awIts awTree).1.length cd, .slice Am (compV awTypes awIts awTree).2.length cm], .agg #[.slice (some ⟨gl, 0, none⟩) 1 1, .int .i64 (-1), .int .i64 0]] (by rfl) rfl rfl (by first | rfl | (simp [Act.eval]; done) | (go_simp; done) | simp [Act.eval, *]) ?_
   refine (code_Holds Ad cd (compV awTypes awIts awTree).1 Am cm (compV awTypes awIts awTree).2 (some ⟨gl, 0, none⟩) 1 [[awEv]] (-1) 0 W27 (HG.out.below HB.out) HRc.out HSl.out (aw_lists BK_gv.out BK_gl.out) (by intro l hl; rw [List.mem_singleton] at hl; subst hl; decide) (by decide) (by decide) (by rw [aw_comp]; decide) 6 (by decide) aw_run).mono ?_
   rintro e W28 ⟨rfl, hb⟩
   replace HB := bs HB hb
   (try clear c_ga)
   replace BK_ga := bb BK_ga hb
   have c_ga := cf1 BK_ga
   (try clear c_gb)
   replace BK_gb := bb BK_gb hb
   have c_gb := cf2 BK_gb
   (try clear c_g1)
   replace BK_g1 := bb BK_g1 hb
   have c_g1 := cf1 BK_g1
   (try clear c_gc)
   replace BK_gc := bb BK_gc hb
   have c_gc := cf1 BK_gc
   (try clear c_gd)
   replace BK_gd := bb BK_gd hb
   have c_gd := cf5 BK_gd
   (try clear c_g2)
   replace BK_g2 := bb BK_g2 hb
   have c_g2 := cf7 BK_g2
   (try clear c_gv)
   replace BK_gv := bb BK_gv hb
   have c_gv := cf11 BK_gv
   (try clear c_gl)
   replace BK_gl := bb BK_gl hb
   have c_gl := cf1 BK_gl
   (try clear c_g4)
   replace BK_g4 := bb BK_g4 hb
   have c_g4 := cf3 BK_g4
   (try clear c_g5)
   replace BK_g5 := bb BK_g5 hb
   have c_g5 := cf2 BK_g5
   (try clear c_g6)
   replace BK_g6 := bb BK_g6 hb
   have c_g6 := cf2 BK_g6
   (try clear c_g8)
   replace BK_g8 := bb BK_g8 hb
   have c_g8 := cf2 BK_g8
   replace HJ := bs HJ hb
   replace HRc := bC HRc hb
   replace HSl := bC HSl hb
   clear hb
   (try clear c_ga)
   (try clear c_gb)
   (try clear c_g1)
   (try clear c_gc)
   (try clear c_gd)
   (try clear c_g2)
   (try clear c_gv)
   (try clear c_gl)
   (try clear c_g4)
   (try clear c_g5)
   (try clear c_g6)
   (try clear c_g8)
   refine ⟨_, rfl, ?_⟩
   refine hK.out _ _ ⟨(blk_cell BK_g1.out 0).trans rfl, (blk_cell BK_g2.out 0).trans rfl, (blk_cell BK_g2.out 1).trans rfl, (blk_cell BK_g2.out 2).trans rfl, (blk_cell BK_g2.out 3).trans rfl, (blk_cell BK_g2.out 4).trans rfl, (blk_cell BK_g2.out 5).trans rfl, (blk_cell BK_g2.out 6).trans rfl, (blk_cell BK_g4.out 0).trans rfl, (blk_cell BK_g4.out 1).trans rfl, (blk_cell BK_g4.out 2).trans rfl, (blk_cell BK_g5.out 0).trans rfl, (blk_cell BK_g5.out 1).trans rfl, (blk_cell BK_g6.out 0).trans rfl, (blk_cell BK_g6.out 1).trans rfl, (blk_cell BK_g8.out 0).trans rfl, (blk_cell BK_g8.out 1).trans rfl⟩ (fun hHeld => ?_)
   clear hK K
   refine norm_ (a' := ?_) ?_ ?_
   rotate_left
   ·show Act.put _ (some 60) _ = _
    simp only [Act.put, List.setIfInBounds_toArray, List.set_cons_zero, List.set_cons_succ, i64_w]
    rfl
   refine pure_ (i := 19) (N := some 61) (v := ?_) (a' := ?_) #[true, true, true, true, true, true, true, true, true, true, true, true, true, true, true, true, true, true, true, true, false] rfl rfl (any_of HT_.out (by kernel_rfl)) (fun _ _ _ h => h) (Or.inl ⟨by rfl, ?_⟩) ?_ ?_
   rotate_left
   ·intro w'
    go_simp
    with_reducible rfl
   rotate_left
   ·simp only [Act.put, List.setIfInBounds_toArray, List.set_cons_zero, List.set_cons_succ, i64_w]
    rfl
   refine pure_ (i := 20) (N := some 0) (v := ?_) (a' := ?_) #[true, true, true, true, true, true, true, true, true, true, true, true, true, true, true, true, true, true, true, true, true] rfl rfl (any_of HT_.out (by kernel_rfl)) (fun _ _ _ h => h) (Or.inl ⟨by rfl, ?_⟩) ?_ ?_
   rotate_left
   ·intro w'
    go_simp
    with_reducible rfl
   rotate_left
   ·simp only [Act.put, List.setIfInBounds_toArray, List.set_cons_zero, List.set_cons_succ, i64_w]
    rfl
   refine done_ (done_of HT_.out (by kernel_rfl)) ?_
   go_wp2
   go_ret
   exact ⟨rfl, HB.out⟩
  refine value_ (w1 := ?_) (v := ?_) (by rfl) rfl ?_ ?_
  rotate_left 2
  ·go_simp
   constructor
   ·rfl
   rfl
  refine hK.out _ _ ⟨(blk_cell (blk_alloc BK_g1.out _) 0).trans rfl, (blk_cell (blk_alloc BK_g2.out _) 0).trans rfl, (blk_cell (blk_alloc BK_g2.out _) 1).trans rfl, (blk_cell (blk_alloc BK_g2.out _) 2).trans rfl, (blk_cell (blk_alloc BK_g2.out _) 3).trans rfl, (blk_cell (blk_alloc BK_g2.out _) 4).trans rfl, (blk_cell (blk_alloc BK_g2.out _) 5).trans rfl, (blk_cell (blk_alloc BK_g2.out _) 6).trans rfl, (blk_cell (blk_alloc BK_g4.out _) 0).trans rfl, (blk_cell (blk_alloc BK_g4.out _) 1).trans rfl, (blk_cell (blk_alloc BK_g4.out _) 2).trans rfl⟩ (fun hHeld => ?_)
  clear hK K
  refine norm_ (a' := ?_) ?_ ?_
  rotate_left
  ·show Act.put _ (some 6) _ = _
   simp only [Act.put, List.setIfInBounds_toArray, List.set_cons_zero, List.set_cons_succ, i64_w]
   rfl
  have hb := (Below.refl W20.heap.size W20).alloc (Nat.le_refl _) (.cells #[.bool false, .int .i64 0] 50)
  have hbox := blk_new W20 (.cells #[.bool false, .int .i64 0] 50)
  obtain ⟨g6, hg_⟩ : ∃ g6, g6 = W20.heap.size := ⟨_, rfl⟩
  rw [← hg_] at hbox ⊢
  generalize W20.alloc (.cells #[.bool false, .int .i64 0] 50) = W21 at hb hbox hHeld ⊢
  have GE_g6 := ge1 hg_ HB
  have GJ_g6 := ge1 hg_ HJ
  have NE_g6_ga := ne1 hg_ BK_ga
  have NE_ga_g6 := ne2 NE_g6_ga
  have NE_g6_gb := ne1 hg_ BK_gb
  have NE_gb_g6 := ne2 NE_g6_gb
  have NE_g6_g1 := ne1 hg_ BK_g1
  have NE_g1_g6 := ne2 NE_g6_g1
  have NE_g6_gc := ne1 hg_ BK_gc
  have NE_gc_g6 := ne2 NE_g6_gc
  have NE_g6_gd := ne1 hg_ BK_gd
  have NE_gd_g6 := ne2 NE_g6_gd
  have NE_g6_g2 := ne1 hg_ BK_g2
  have NE_g2_g6 := ne2 NE_g6_g2
  have NE_g6_gv := ne1 hg_ BK_gv
  have NE_gv_g6 := ne2 NE_g6_gv
  have NE_g6_gl := ne1 hg_ BK_gl
  have NE_gl_g6 := ne2 NE_g6_gl
  have NE_g6_g4 := ne1 hg_ BK_g4
  have NE_g4_g6 := ne2 NE_g6_g4
  have NE_g6_g5 := ne1 hg_ BK_g5
  have NE_g5_g6 := ne2 NE_g6_g5
  replace HB := bs HB hb
  (try clear c_ga)
  replace BK_ga := bb BK_ga hb
  have c_ga := cf1 BK_ga
  (try clear c_gb)
  replace BK_gb := bb BK_gb hb
  have c_gb := cf2 BK_gb
  (try clear c_g1)
  replace BK_g1 := bb BK_g1 hb
  have c_g1 := cf1 BK_g1
  (try clear c_gc)
  replace BK_gc := bb BK_gc hb
  have c_gc := cf1 BK_gc
  (try clear c_gd)
  replace BK_gd := bb BK_gd hb
  have c_gd := cf5 BK_gd
  (try clear c_g2)
  replace BK_g2 := bb BK_g2 hb
  have c_g2 := cf7 BK_g2
  (try clear c_gv)
  replace BK_gv := bb BK_gv hb
  have c_gv := cf11 BK_gv
  (try clear c_gl)
  replace BK_gl := bb BK_gl hb
  have c_gl := cf1 BK_gl
  (try clear c_g4)
  replace BK_g4 := bb BK_g4 hb
  have c_g4 := cf3 BK_g4
  (try clear c_g5)
  replace BK_g5 := bb BK_g5 hb
  have c_g5 := cf2 BK_g5
  replace HJ := bs HJ hb
  replace HRc := bC HRc hb
  replace HSl := bC HSl hb
  have BK_g6 := am hbox
  clear hb hbox hg_
  (try clear c_ga)
  (try clear c_gb)
  (try clear c_g1)
  (try clear c_gc)
  (try clear c_gd)
  (try clear c_g2)
  (try clear c_gv)
  (try clear c_gl)
  (try clear c_g4)
  (try clear c_g5)
  (try clear c_g6)
  refine one_ (i := 5) (N := some 38) #[true, true, true, true, true, true, false, false, false, true, false, false] rfl rfl (one_of HT_.out (by kernel_rfl)) (by decide) (fun K hK => ?_)
  refine goes_ Tryd.func10 (by kernel_rfl) rfl #[.agg #[.slice Ac (compV awTypes awIts awTree).1.length cc, .slice Al (compV awTypes awIts awTree).2.length cl], .agg #[.slice (some ⟨gl, 0, none⟩) 1 1, .int .i64 (-1), .int .i64 0]] (by rfl) rfl rfl (by first | rfl | (simp [Act.eval]; done) | (go_simp; done) | simp [Act.eval, *]) ?_
  refine (run_is Ac cc (compV awTypes awIts awTree).1 Al cl (compV awTypes awIts awTree).2 (some ⟨gl, 0, none⟩) 1 [[awEv]] (-1) 0 W21 (HG.out.below HB.out) HRc.out HSl.out (aw_lists BK_gv.out BK_gl.out) (by intro l hl; rw [List.mem_singleton] at hl; subst hl; decide) (by decide) (by decide) (by rw [aw_comp]; decide) true 6 0 aw_run).mono ?_
  rintro e W22 ⟨rfl, hb⟩
  replace HB := bs HB hb
  (try clear c_ga)
  replace BK_ga := bb BK_ga hb
  have c_ga := cf1 BK_ga
  (try clear c_gb)
  replace BK_gb := bb BK_gb hb
  have c_gb := cf2 BK_gb
  (try clear c_g1)
  replace BK_g1 := bb BK_g1 hb
  have c_g1 := cf1 BK_g1
  (try clear c_gc)
  replace BK_gc := bb BK_gc hb
  have c_gc := cf1 BK_gc
  (try clear c_gd)
  replace BK_gd := bb BK_gd hb
  have c_gd := cf5 BK_gd
  (try clear c_g2)
  replace BK_g2 := bb BK_g2 hb
  have c_g2 := cf7 BK_g2
  (try clear c_gv)
  replace BK_gv := bb BK_gv hb
  have c_gv := cf11 BK_gv
  (try clear c_gl)
  replace BK_gl := bb BK_gl hb
  have c_gl := cf1 BK_gl
  (try clear c_g4)
  replace BK_g4 := bb BK_g4 hb
  have c_g4 := cf3 BK_g4
  (try clear c_g5)
  replace BK_g5 := bb BK_g5 hb
  have c_g5 := cf2 BK_g5
  (try clear c_g6)
  replace BK_g6 := bb BK_g6 hb
  have c_g6 := cf2 BK_g6
  replace HJ := bs HJ hb
  replace HRc := bC HRc hb
  replace HSl := bC HSl hb
  clear hb
  (try clear c_ga)
  (try clear c_gb)
  (try clear c_g1)
  (try clear c_gc)
  (try clear c_gd)
  (try clear c_g2)
  (try clear c_gv)
  (try clear c_gl)
  (try clear c_g4)
  (try clear c_g5)
  (try clear c_g6)
  refine ⟨_, rfl, ?_⟩
  refine hK.out _ _ ⟨(blk_cell BK_g1.out 0).trans rfl, (blk_cell BK_g2.out 0).trans rfl, (blk_cell BK_g2.out 1).trans rfl, (blk_cell BK_g2.out 2).trans rfl, (blk_cell BK_g2.out 3).trans rfl, (blk_cell BK_g2.out 4).trans rfl, (blk_cell BK_g2.out 5).trans rfl, (blk_cell BK_g2.out 6).trans rfl, (blk_cell BK_g4.out 0).trans rfl, (blk_cell BK_g4.out 1).trans rfl, (blk_cell BK_g4.out 2).trans rfl⟩ (fun hHeld => ?_)
  clear hK K
  refine norm_ (a' := ?_) ?_ ?_
  rotate_left
  ·show Act.put _ (some 38) _ = _
   simp only [Act.put, List.setIfInBounds_toArray, List.set_cons_zero, List.set_cons_succ, i64_w]
   rfl
  refine pure_ (i := 6) (N := some 32) (v := ?_) (a' := ?_) #[true, true, true, true, true, true, true, false, false, true, false, false] rfl rfl (any_of HT_.out (by kernel_rfl)) (fun _ _ _ h => h) (Or.inl ⟨by rfl, ?_⟩) ?_ ?_
  rotate_left
  ·intro w'
   go_simp
   with_reducible rfl
  rotate_left
  ·simp only [Act.put, List.setIfInBounds_toArray, List.set_cons_zero, List.set_cons_succ, i64_w]
   rfl
  refine pure_ (i := 7) (N := some 39) (v := ?_) (a' := ?_) #[true, true, true, true, true, true, true, true, false, true, false, false] rfl rfl (any_of HT_.out (by kernel_rfl)) (fun _ _ _ h => h) (Or.inl ⟨by rfl, ?_⟩) ?_ ?_
  rotate_left
  ·intro w'
   go_simp
   with_reducible rfl
  rotate_left
  ·simp only [Act.put, List.setIfInBounds_toArray, List.set_cons_zero, List.set_cons_succ, i64_w]
   rfl
  refine pure_ (i := 8) (N := some 40) (v := ?_) (a' := ?_) #[true, true, true, true, true, true, true, true, true, true, false, false] rfl rfl (any_of HT_.out (by kernel_rfl)) (fun _ _ _ h => h) (Or.inl ⟨by rfl, ?_⟩) ?_ ?_
  rotate_left
  ·intro w'
   go_simp
   with_reducible rfl
  rotate_left
  ·simp only [Act.put, List.setIfInBounds_toArray, List.set_cons_zero, List.set_cons_succ, i64_w]
   rfl
  have c0 : W22.cell? ⟨g6, 0, none⟩ = some (.bool false) := (blk_cell BK_g6.out 0).trans rfl
  have c1 : W22.cell? ⟨g6, 1, none⟩ = some (.int .i64 0) := (blk_cell BK_g6.out 1).trans rfl
  have f0 := blk_frozen BK_g6.out 0
  have f1 := blk_frozen BK_g6.out 1
  refine last_ (i := 10) (N := none) #[true, true, true, true, true, true, true, true, true, true, true, false] rfl rfl (one_of HT_.out (by kernel_rfl)) (by decide) (fun K hK => ?_)
  refine skip_ (w1 := ?_) (by rfl) rfl ?_ ?_
  rotate_left
  ·go_simp
   rfl
  refine hK.out _ _ ?_
  clear hK K
  clear c0 c1 f0 f1
  refine pure_ (i := 11) (N := some 7) (v := ?_) (a' := ?_) #[true, true, true, true, true, true, true, true, true, true, true, true] rfl rfl (any_of HT_.out (by kernel_rfl)) (fun _ _ _ h => h) (Or.inl ⟨by rfl, ?_⟩) ?_ ?_
  rotate_left
  ·intro w'
   go_simp
   with_reducible rfl
  rotate_left
  ·simp only [Act.put, List.setIfInBounds_toArray, List.set_cons_zero, List.set_cons_succ, i64_w]
   rfl
  refine done_ (done_of HT_.out (by kernel_rfl)) ?_
  generalize hWQ : (W22.setCell ⟨g6, 0, none⟩ (.bool true)).setCell ⟨g6, 1, none⟩ (.int .i64 6) = WQ
  have HBq := am (show Below w.heap.size w WQ from by rw [← hWQ]; exact below_set (below_set HB.out GE_g6.out) GE_g6.out)
  have HJq := am (show Below W11.heap.size W11 WQ from by rw [← hWQ]; exact below_set (below_set HJ.out GJ_g6.out) GJ_g6.out)
  have BQ_ga : Aside0 (WQ.heap[ga]? = some (.cells #[.string (⟨#[120]⟩ : ByteArray)] 9 (0, 0))) := ⟨by rw [← hWQ]; exact blk_far (blk_far BK_ga.out NE_ga_g6 _) NE_ga_g6 _⟩
  have BQ_gb : Aside0 (WQ.heap[gb]? = some (.cells #[.string (⟨#[65]⟩ : ByteArray), .slice (some ⟨ga, 0, none⟩) 1 1] 65 (0, 0))) := ⟨by rw [← hWQ]; exact blk_far (blk_far BK_gb.out NE_gb_g6 _) NE_gb_g6 _⟩
  have BQ_g1 : Aside0 (WQ.heap[g1]? = some (.cells #[.slice (some ⟨gb, 0, none⟩) 1 1] 24 (0, 0))) := ⟨by rw [← hWQ]; exact blk_far (blk_far BK_g1.out NE_g1_g6 _) NE_g1_g6 _⟩
  have BQ_gc : Aside0 (WQ.heap[gc]? = some (.cells #[.string (⟨#[65]⟩ : ByteArray)] 9 (0, 0))) := ⟨by rw [← hWQ]; exact blk_far (blk_far BK_gc.out NE_gc_g6 _) NE_gc_g6 _⟩
  have BQ_gd : Aside0 (WQ.heap[gd]? = some (.cells #[.bool false, .slice (some ⟨gc, 0, none⟩) 1 1, .string (⟨#[97]⟩ : ByteArray), .int .i64 1, .int .i64 1] 67 (0, 0))) := ⟨by rw [← hWQ]; exact blk_far (blk_far BK_gd.out NE_gd_g6 _) NE_gd_g6 _⟩
  have BQ_g2 : Aside0 (WQ.heap[g2]? = some (.cells #[.slice (some ⟨gd, 0, none⟩) 1 1, .int .i64 0, .int .i64 0, .slice none 0 0, .int .i64 0, .string ByteArray.empty, .slice none 0 0] 31 (0, 0))) := ⟨by rw [← hWQ]; exact blk_far (blk_far BK_g2.out NE_g2_g6 _) NE_g2_g6 _⟩
  have BQ_gv : Aside0 (WQ.heap[gv]? = some (.cells #[.int .i64 1, .int .u64 0, .int .i64 0, .int .i64 7, .int .i64 0, .int .i64 0, .int .i64 0, .int .i64 0, .int .i64 0, .int .i64 0, .int .i64 0] 73 (0, 0))) := ⟨by rw [← hWQ]; exact blk_far (blk_far BK_gv.out NE_gv_g6 _) NE_gv_g6 _⟩
  have BQ_gl : Aside0 (WQ.heap[gl]? = some (.cells #[.slice (some ⟨gv, 0, none⟩) 1 1] 62 (0, 0))) := ⟨by rw [← hWQ]; exact blk_far (blk_far BK_gl.out NE_gl_g6 _) NE_gl_g6 _⟩
  have BQ_g4 : Aside0 (WQ.heap[g4]? = some (.cells #[.slice (some ⟨gl, 0, none⟩) 1 1, .int .i64 (-1), .int .i64 0] 34 (0, 0))) := ⟨by rw [← hWQ]; exact blk_far (blk_far BK_g4.out NE_g4_g6 _) NE_g4_g6 _⟩
  have BQ_g5 : Aside0 (WQ.heap[g5]? = some (.cells #[.bool true, .int .i64 6] 50 (0, 0))) := ⟨by rw [← hWQ]; exact blk_far (blk_far BK_g5.out NE_g5_g6 _) NE_g5_g6 _⟩
  have BQ_g6 : Aside0 (WQ.heap[g6]? = some (.cells #[.bool true, .int .i64 6] 50 (0, 0))) := ⟨by rw [← hWQ]; exact blk_put (cs := #[.bool true, .int .i64 0]) (blk_put (cs := #[.bool false, .int .i64 0]) BK_g6.out 0 _ rfl) 1 _ rfl⟩
  clear hWQ HB HJ HRc HSl BK_ga BK_gb BK_g1 BK_gc BK_gd BK_g2 BK_gv BK_gl BK_g4 BK_g5 BK_g6
  have HB := HBq
  have HJ := HJq
  have BK_ga := BQ_ga
  have BK_gb := BQ_gb
  have BK_g1 := BQ_g1
  have BK_gc := BQ_gc
  have BK_gd := BQ_gd
  have BK_g2 := BQ_g2
  have BK_gv := BQ_gv
  have BK_gl := BQ_gl
  have BK_g4 := BQ_g4
  have BK_g5 := BQ_g5
  have BK_g6 := BQ_g6
  clear HBq HJq BQ_ga BQ_gb BQ_g1 BQ_gc BQ_gd BQ_g2 BQ_gv BQ_gl BQ_g4 BQ_g5 BQ_g6
  go_wp2_with (first | ((with_reducible refine gate_dst (N := 8) rfl ?_); refine box_event ?hg (N := 8) ?hd (cs := #[.bool false, .int .i64 0]) (t := 50) ?hr ?_; (case hd => rfl); (case hg => rfl); (case hr => first | (go_simp; done) | (go_simp; rfl)); intro g8 hg_ W24 hbox hb; have GJ_g8 := ge1 hg_ HJ; have GE_g8 := ge1 hg_ HB; have NE_g8_ga := ne1 hg_ BK_ga; have NE_ga_g8 := ne2 NE_g8_ga; have NE_g8_gb := ne1 hg_ BK_gb; have NE_gb_g8 := ne2 NE_g8_gb; have NE_g8_g1 := ne1 hg_ BK_g1; have NE_g1_g8 := ne2 NE_g8_g1; have NE_g8_gc := ne1 hg_ BK_gc; have NE_gc_g8 := ne2 NE_g8_gc; have NE_g8_gd := ne1 hg_ BK_gd; have NE_gd_g8 := ne2 NE_g8_gd; have NE_g8_g2 := ne1 hg_ BK_g2; have NE_g2_g8 := ne2 NE_g8_g2; have NE_g8_gv := ne1 hg_ BK_gv; have NE_gv_g8 := ne2 NE_g8_gv; have NE_g8_gl := ne1 hg_ BK_gl; have NE_gl_g8 := ne2 NE_g8_gl; have NE_g8_g4 := ne1 hg_ BK_g4; have NE_g4_g8 := ne2 NE_g8_g4; have NE_g8_g5 := ne1 hg_ BK_g5; have NE_g5_g8 := ne2 NE_g8_g5; have NE_g8_g6 := ne1 hg_ BK_g6; have NE_g6_g8 := ne2 NE_g8_g6; replace HB := bs HB hb; (try clear c_ga); replace BK_ga := bb BK_ga hb; have c_ga := cf1 BK_ga; (try clear c_gb); replace BK_gb := bb BK_gb hb; have c_gb := cf2 BK_gb; (try clear c_g1); replace BK_g1 := bb BK_g1 hb; have c_g1 := cf1 BK_g1; (try clear c_gc); replace BK_gc := bb BK_gc hb; have c_gc := cf1 BK_gc; (try clear c_gd); replace BK_gd := bb BK_gd hb; have c_gd := cf5 BK_gd; (try clear c_g2); replace BK_g2 := bb BK_g2 hb; have c_g2 := cf7 BK_g2; (try clear c_gv); replace BK_gv := bb BK_gv hb; have c_gv := cf11 BK_gv; (try clear c_gl); replace BK_gl := bb BK_gl hb; have c_gl := cf1 BK_gl; (try clear c_g4); replace BK_g4 := bb BK_g4 hb; have c_g4 := cf3 BK_g4; (try clear c_g5); replace BK_g5 := bb BK_g5 hb; have c_g5 := cf2 BK_g5; (try clear c_g6); replace BK_g6 := bb BK_g6 hb; have c_g6 := cf2 BK_g6; replace HJ := bs HJ hb; have BK_g8 := am hbox; have c_g8 := cf2 BK_g8; clear hb hbox hg_) | ((with_reducible refine gate_store (t := 50) (p := 8) rfl ?_); refine store_event (t := 50) (p := 8) (v := ?vo_W25_11) (w1 := ?w1_W25_12) ?hg ?ho ?hn ?hr ?_; (case ho => rfl); (case hg => rfl); (case hn => rfl); (case hr => first | (go_simp; done) | (go_simp; rfl)); intro W25 hw; have hk := kb2 hw; replace HJ := sb2 HJ GJ_g8 hw; replace HB := sb2 HB GE_g8 hw; (try clear c_ga); replace BK_ga := bk BK_ga hk NE_ga_g8; have c_ga := cf1 BK_ga; (try clear c_gb); replace BK_gb := bk BK_gb hk NE_gb_g8; have c_gb := cf2 BK_gb; (try clear c_g1); replace BK_g1 := bk BK_g1 hk NE_g1_g8; have c_g1 := cf1 BK_g1; (try clear c_gc); replace BK_gc := bk BK_gc hk NE_gc_g8; have c_gc := cf1 BK_gc; (try clear c_gd); replace BK_gd := bk BK_gd hk NE_gd_g8; have c_gd := cf5 BK_gd; (try clear c_g2); replace BK_g2 := bk BK_g2 hk NE_g2_g8; have c_g2 := cf7 BK_g2; (try clear c_gv); replace BK_gv := bk BK_gv hk NE_gv_g8; have c_gv := cf11 BK_gv; (try clear c_gl); replace BK_gl := bk BK_gl hk NE_gl_g8; have c_gl := cf1 BK_gl; (try clear c_g4); replace BK_g4 := bk BK_g4 hk NE_g4_g8; have c_g4 := cf3 BK_g4; (try clear c_g5); replace BK_g5 := bk BK_g5 hk NE_g5_g8; have c_g5 := cf2 BK_g5; (try clear c_g6); replace BK_g6 := bk BK_g6 hk NE_g6_g8; have c_g6 := cf2 BK_g6; (try clear c_g8); replace BK_g8 := bp2 BK_g8 hw; have c_g8 := cf2 BK_g8; clear hk hw))
  refine start_ (n := 21) (S := fun w' => w'.cell? ⟨g1, 0, none⟩ = some (.slice (some ⟨gb, 0, none⟩) 1 1) ∧ w'.cell? ⟨g2, 0, none⟩ = some (.slice (some ⟨gd, 0, none⟩) 1 1) ∧ w'.cell? ⟨g2, 1, none⟩ = some (.int .i64 0) ∧ w'.cell? ⟨g2, 2, none⟩ = some (.int .i64 0) ∧ w'.cell? ⟨g2, 3, none⟩ = some (.slice none 0 0) ∧ w'.cell? ⟨g2, 4, none⟩ = some (.int .i64 0) ∧ w'.cell? ⟨g2, 5, none⟩ = some (.string ByteArray.empty) ∧ w'.cell? ⟨g2, 6, none⟩ = some (.slice none 0 0) ∧ w'.cell? ⟨g4, 0, none⟩ = some (.slice (some ⟨gl, 0, none⟩) 1 1) ∧ w'.cell? ⟨g4, 1, none⟩ = some (.int .i64 (-1)) ∧ w'.cell? ⟨g4, 2, none⟩ = some (.int .i64 0) ∧ w'.cell? ⟨g5, 0, none⟩ = some (.bool true) ∧ w'.cell? ⟨g5, 1, none⟩ = some (.int .i64 6) ∧ w'.cell? ⟨g6, 0, none⟩ = some (.bool true) ∧ w'.cell? ⟨g6, 1, none⟩ = some (.int .i64 6) ∧ w'.cell? ⟨g8, 0, none⟩ = some (.bool true) ∧ w'.cell? ⟨g8, 1, none⟩ = some (.int .i64 6)) (ds := []) #[false, false, false, false, false, false, false, false, false, false, false, false, false, false, false, false, false, false, false, false, false] (by kernel_rfl) rfl rfl ⟨(blk_cell BK_g1.out 0).trans rfl, (blk_cell BK_g2.out 0).trans rfl, (blk_cell BK_g2.out 1).trans rfl, (blk_cell BK_g2.out 2).trans rfl, (blk_cell BK_g2.out 3).trans rfl, (blk_cell BK_g2.out 4).trans rfl, (blk_cell BK_g2.out 5).trans rfl, (blk_cell BK_g2.out 6).trans rfl, (blk_cell BK_g4.out 0).trans rfl, (blk_cell BK_g4.out 1).trans rfl, (blk_cell BK_g4.out 2).trans rfl, (blk_cell BK_g5.out 0).trans rfl, (blk_cell BK_g5.out 1).trans rfl, (blk_cell BK_g6.out 0).trans rfl, (blk_cell BK_g6.out 1).trans rfl, (blk_cell BK_g8.out 0).trans rfl, (blk_cell BK_g8.out 1).trans rfl⟩ (fun hHeld => ?_)
  refine with_tabW aw_q.tab aw_q.bits (fun HT_ HW_ => ?_)
  (try clear c_ga)
  (try clear c_gb)
  (try clear c_g1)
  (try clear c_gc)
  (try clear c_gd)
  (try clear c_g2)
  (try clear c_gv)
  (try clear c_gl)
  (try clear c_g4)
  (try clear c_g5)
  (try clear c_g6)
  (try clear c_g8)
  have hb := below_drew1 (Below.refl W25.heap.size W25)
  generalize W25.drew = W26 at hHeld hb ⊢
  replace HB := bs HB hb
  (try clear c_ga)
  replace BK_ga := bb BK_ga hb
  have c_ga := cf1 BK_ga
  (try clear c_gb)
  replace BK_gb := bb BK_gb hb
  have c_gb := cf2 BK_gb
  (try clear c_g1)
  replace BK_g1 := bb BK_g1 hb
  have c_g1 := cf1 BK_g1
  (try clear c_gc)
  replace BK_gc := bb BK_gc hb
  have c_gc := cf1 BK_gc
  (try clear c_gd)
  replace BK_gd := bb BK_gd hb
  have c_gd := cf5 BK_gd
  (try clear c_g2)
  replace BK_g2 := bb BK_g2 hb
  have c_g2 := cf7 BK_g2
  (try clear c_gv)
  replace BK_gv := bb BK_gv hb
  have c_gv := cf11 BK_gv
  (try clear c_gl)
  replace BK_gl := bb BK_gl hb
  have c_gl := cf1 BK_gl
  (try clear c_g4)
  replace BK_g4 := bb BK_g4 hb
  have c_g4 := cf3 BK_g4
  (try clear c_g5)
  replace BK_g5 := bb BK_g5 hb
  have c_g5 := cf2 BK_g5
  (try clear c_g6)
  replace BK_g6 := bb BK_g6 hb
  have c_g6 := cf2 BK_g6
  (try clear c_g8)
  replace BK_g8 := bb BK_g8 hb
  have c_g8 := cf2 BK_g8
  replace HJ := bs HJ hb
  clear hb
  (try clear c_ga)
  (try clear c_gb)
  (try clear c_g1)
  (try clear c_gc)
  (try clear c_gd)
  (try clear c_g2)
  (try clear c_gv)
  (try clear c_gl)
  (try clear c_g4)
  (try clear c_g5)
  (try clear c_g6)
  (try clear c_g8)
  refine take_ (i := 0) (N := some 42) (v := ?_) (a' := ?_) #[true, false, false, false, false, false, false, false, false, false, false, false, false, false, false, false, false, false, false, false, false] rfl rfl (take_ofW HT_.out HW_.out (by kernel_rfl)) (fun _ _ _ h => h) (Or.inl ⟨by rfl, ?_⟩) hHeld ?_ ?_
  rotate_left
  ·rintro w' ⟨s0, s1, s2, s3, s4, s5, s6, s7, s8, s9, s10, s11, s12, s13, s14, s15, s16⟩
   go_simp
   with_reducible rfl
  rotate_left
  ·simp only [Act.put, List.setIfInBounds_toArray, List.set_cons_zero, List.set_cons_succ, i64_w]
   rfl
  refine take_ (i := 1) (N := some 43) (v := ?_) (a' := ?_) #[true, true, false, false, false, false, false, false, false, false, false, false, false, false, false, false, false, false, false, false, false] rfl rfl (take_ofW HT_.out HW_.out (by kernel_rfl)) (fun _ _ _ h => h) (Or.inl ⟨by rfl, ?_⟩) hHeld ?_ ?_
  rotate_left
  ·rintro w' ⟨s0, s1, s2, s3, s4, s5, s6, s7, s8, s9, s10, s11, s12, s13, s14, s15, s16⟩
   go_simp
   with_reducible rfl
  rotate_left
  ·simp only [Act.put, List.setIfInBounds_toArray, List.set_cons_zero, List.set_cons_succ, i64_w]
   rfl
  refine pure_ (i := 2) (N := some 44) (v := ?_) (a' := ?_) #[true, true, true, false, false, false, false, false, false, false, false, false, false, false, false, false, false, false, false, false, false] rfl rfl (any_of HT_.out (by kernel_rfl)) (fun _ _ _ h => h) (Or.inl ⟨by rfl, ?_⟩) ?_ ?_
  rotate_left
  ·intro w'
   go_simp
   with_reducible rfl
  rotate_left
  ·simp only [Act.put, List.setIfInBounds_toArray, List.set_cons_zero, List.set_cons_succ, i64_w]
   rfl
  refine pure_ (i := 3) (N := some 45) (v := ?_) (a' := ?_) #[true, true, true, true, false, false, false, false, false, false, false, false, false, false, false, false, false, false, false, false, false] rfl rfl (any_of HT_.out (by kernel_rfl)) (fun _ _ _ h => h) (Or.inl ⟨by rfl, ?_⟩) ?_ ?_
  rotate_left
  ·intro w'
   go_simp
   with_reducible rfl
  rotate_left
  ·simp only [Act.put, List.setIfInBounds_toArray, List.set_cons_zero, List.set_cons_succ, i64_w]
   rfl
  refine take_ (i := 4) (N := some 46) (v := ?_) (a' := ?_) #[true, true, true, true, true, false, false, false, false, false, false, false, false, false, false, false, false, false, false, false, false] rfl rfl (take_ofW HT_.out HW_.out (by kernel_rfl)) (fun _ _ _ h => h) (Or.inl ⟨by rfl, ?_⟩) hHeld ?_ ?_
  rotate_left
  ·rintro w' ⟨s0, s1, s2, s3, s4, s5, s6, s7, s8, s9, s10, s11, s12, s13, s14, s15, s16⟩
   go_simp
   with_reducible rfl
  rotate_left
  ·simp only [Act.put, List.setIfInBounds_toArray, List.set_cons_zero, List.set_cons_succ, i64_w]
   rfl
  refine take_ (i := 5) (N := some 47) (v := ?_) (a' := ?_) #[true, true, true, true, true, true, false, false, false, false, false, false, false, false, false, false, false, false, false, false, false] rfl rfl (take_ofW HT_.out HW_.out (by kernel_rfl)) (fun _ _ _ h => h) (Or.inl ⟨by rfl, ?_⟩) hHeld ?_ ?_
  rotate_left
  ·rintro w' ⟨s0, s1, s2, s3, s4, s5, s6, s7, s8, s9, s10, s11, s12, s13, s14, s15, s16⟩
   go_simp
   with_reducible rfl
  rotate_left
  ·simp only [Act.put, List.setIfInBounds_toArray, List.set_cons_zero, List.set_cons_succ, i64_w]
   rfl
  refine pure_ (i := 6) (N := some 48) (v := ?_) (a' := ?_) #[true, true, true, true, true, true, true, false, false, false, false, false, false, false, false, false, false, false, false, false, false] rfl rfl (any_of HT_.out (by kernel_rfl)) (fun _ _ _ h => h) (Or.inl ⟨by rfl, ?_⟩) ?_ ?_
  rotate_left
  ·intro w'
   go_simp
   with_reducible rfl
  rotate_left
  ·simp only [Act.put, List.setIfInBounds_toArray, List.set_cons_zero, List.set_cons_succ, i64_w]
   rfl
  refine pure_ (i := 7) (N := some 49) (v := ?_) (a' := ?_) #[true, true, true, true, true, true, true, true, false, false, false, false, false, false, false, false, false, false, false, false, false] rfl rfl (any_of HT_.out (by kernel_rfl)) (fun _ _ _ h => h) (Or.inl ⟨by rfl, ?_⟩) ?_ ?_
  rotate_left
  ·intro w'
   go_simp
   with_reducible rfl
  rotate_left
  ·simp only [Act.put, List.setIfInBounds_toArray, List.set_cons_zero, List.set_cons_succ, i64_w]
   rfl
  refine pure_ (i := 8) (N := some 50) (v := ?_) (a' := ?_) #[true, true, true, true, true, true, true, true, true, false, false, false, false, false, false, false, false, false, false, false, false] rfl rfl (any_of HT_.out (by kernel_rfl)) (fun _ _ _ h => h) (Or.inl ⟨by rfl, ?_⟩) ?_ ?_
  rotate_left
  ·intro w'
   go_simp
   with_reducible rfl
  rotate_left
  ·simp only [Act.put, List.setIfInBounds_toArray, List.set_cons_zero, List.set_cons_succ, i64_w]
   rfl
  refine pure_ (i := 9) (N := some 51) (v := ?_) (a' := ?_) #[true, true, true, true, true, true, true, true, true, true, false, false, false, false, false, false, false, false, false, false, false] rfl rfl (any_of HT_.out (by kernel_rfl)) (fun _ _ _ h => h) (Or.inl ⟨by rfl, ?_⟩) ?_ ?_
  rotate_left
  ·intro w'
   go_simp
   with_reducible rfl
  rotate_left
  ·simp only [Act.put, List.setIfInBounds_toArray, List.set_cons_zero, List.set_cons_succ, i64_w]
   rfl
  refine pure_ (i := 10) (N := some 52) (v := ?_) (a' := ?_) #[true, true, true, true, true, true, true, true, true, true, true, false, false, false, false, false, false, false, false, false, false] rfl rfl (any_of HT_.out (by kernel_rfl)) (fun _ _ _ h => h) (Or.inl ⟨by rfl, ?_⟩) ?_ ?_
  rotate_left
  ·intro w'
   go_simp
   with_reducible rfl
  rotate_left
  ·simp only [Act.put, List.setIfInBounds_toArray, List.set_cons_zero, List.set_cons_succ, i64_w]
   rfl
  refine pure_ (i := 11) (N := some 53) (v := ?_) (a' := ?_) #[true, true, true, true, true, true, true, true, true, true, true, true, false, false, false, false, false, false, false, false, false] rfl rfl (any_of HT_.out (by kernel_rfl)) (fun _ _ _ h => h) (Or.inl ⟨by rfl, ?_⟩) ?_ ?_
  rotate_left
  ·intro w'
   go_simp
   with_reducible rfl
  rotate_left
  ·simp only [Act.put, List.setIfInBounds_toArray, List.set_cons_zero, List.set_cons_succ, i64_w]
   rfl
  refine pure_ (i := 12) (N := some 54) (v := ?_) (a' := ?_) #[true, true, true, true, true, true, true, true, true, true, true, true, true, false, false, false, false, false, false, false, false] rfl rfl (any_of HT_.out (by kernel_rfl)) (fun _ _ _ h => h) (Or.inl ⟨by rfl, ?_⟩) ?_ ?_
  rotate_left
  ·intro w'
   go_simp
   with_reducible rfl
  rotate_left
  ·simp only [Act.put, List.setIfInBounds_toArray, List.set_cons_zero, List.set_cons_succ, i64_w]
   rfl
  refine take_ (i := 13) (N := some 55) (v := ?_) (a' := ?_) #[true, true, true, true, true, true, true, true, true, true, true, true, true, true, false, false, false, false, false, false, false] rfl rfl (take_ofW HT_.out HW_.out (by kernel_rfl)) (fun _ _ _ h => h) (Or.inl ⟨by rfl, ?_⟩) hHeld ?_ ?_
  rotate_left
  ·rintro w' ⟨s0, s1, s2, s3, s4, s5, s6, s7, s8, s9, s10, s11, s12, s13, s14, s15, s16⟩
   go_simp
   with_reducible rfl
  rotate_left
  ·simp only [Act.put, List.setIfInBounds_toArray, List.set_cons_zero, List.set_cons_succ, i64_w]
   rfl
  refine take_ (i := 14) (N := some 56) (v := ?_) (a' := ?_) #[true, true, true, true, true, true, true, true, true, true, true, true, true, true, true, false, false, false, false, false, false] rfl rfl (take_ofW HT_.out HW_.out (by kernel_rfl)) (fun _ _ _ h => h) (Or.inl ⟨by rfl, ?_⟩) hHeld ?_ ?_
  rotate_left
  ·rintro w' ⟨s0, s1, s2, s3, s4, s5, s6, s7, s8, s9, s10, s11, s12, s13, s14, s15, s16⟩
   go_simp
   with_reducible rfl
  rotate_left
  ·simp only [Act.put, List.setIfInBounds_toArray, List.set_cons_zero, List.set_cons_succ, i64_w]
   rfl
  refine pure_ (i := 15) (N := some 57) (v := ?_) (a' := ?_) #[true, true, true, true, true, true, true, true, true, true, true, true, true, true, true, true, false, false, false, false, false] rfl rfl (any_of HT_.out (by kernel_rfl)) (fun _ _ _ h => h) (Or.inl ⟨by rfl, ?_⟩) ?_ ?_
  rotate_left
  ·intro w'
   go_simp
   with_reducible rfl
  rotate_left
  ·simp only [Act.put, List.setIfInBounds_toArray, List.set_cons_zero, List.set_cons_succ, i64_w]
   rfl
  refine take_ (i := 17) (N := some 59) (v := ?_) (a' := ?_) #[true, true, true, true, true, true, true, true, true, true, true, true, true, true, true, true, false, true, false, false, false] rfl rfl (take_ofW HT_.out HW_.out (by kernel_rfl)) (fun _ _ _ h => h) (Or.inl ⟨by rfl, ?_⟩) hHeld ?_ ?_
  rotate_left
  ·rintro w' ⟨s0, s1, s2, s3, s4, s5, s6, s7, s8, s9, s10, s11, s12, s13, s14, s15, s16⟩
   go_simp
   with_reducible rfl
  rotate_left
  ·simp only [Act.put, List.setIfInBounds_toArray, List.set_cons_zero, List.set_cons_succ, i64_w]
   rfl
  refine one_ (i := 16) (N := some 58) #[true, true, true, true, true, true, true, true, true, true, true, true, true, true, true, true, true, true, false, false, false] rfl rfl (one_of HT_.out (by kernel_rfl)) (by decide) (fun K hK => ?_)
  refine goes_ Tryd.func8 (by kernel_rfl) rfl #[.agg #[.slice (some ⟨gb, 0, none⟩) 1 1], .agg #[.slice (some ⟨gd, 0, none⟩) 1 1, .int .i64 0, .int .i64 0, .slice none 0 0, .int .i64 0, .string ByteArray.empty, .slice none 0 0], .slice (some ⟨gt, 0, none⟩) 3 ct] (by rfl) rfl rfl (by first | rfl | (simp [Act.eval]; done) | (go_simp; done) | simp [Act.eval, *]) ?_
  refine (code_Compile (some ⟨gd, 0, none⟩) 1 awIts 0 0 none 0 [] 0 ByteArray.empty none 0 [] (some ⟨gb, 0, none⟩) 1 awTypes (some ⟨gt, 0, none⟩) ct awTree W26 (HGK.out.below HB.out) (aw_query BK_gc.out BK_gd.out) (aw_types BK_ga.out BK_gb.out) (Nat.le_refl _) (by decide) (Kd.C_below HT.out HJ.out) (by decide)).mono ?_
  rintro e W27 ⟨vc, vl, rfl, hRc, hSl, hb⟩
  obtain ⟨Ad, cd, rfl⟩ := Kd.R_slice hRc
  obtain ⟨Am, cm, rfl⟩ := Kd.S_slice hSl
  have HRc := am (Kd.R_reads' hRc).2.2
  have HSl := am (Kd.R_reads' (Kd.S_R hSl)).2.2
  clear hRc hSl
  replace HB := bs HB hb
  (try clear c_ga)
  replace BK_ga := bb BK_ga hb
  have c_ga := cf1 BK_ga
  (try clear c_gb)
  replace BK_gb := bb BK_gb hb
  have c_gb := cf2 BK_gb
  (try clear c_g1)
  replace BK_g1 := bb BK_g1 hb
  have c_g1 := cf1 BK_g1
  (try clear c_gc)
  replace BK_gc := bb BK_gc hb
  have c_gc := cf1 BK_gc
  (try clear c_gd)
  replace BK_gd := bb BK_gd hb
  have c_gd := cf5 BK_gd
  (try clear c_g2)
  replace BK_g2 := bb BK_g2 hb
  have c_g2 := cf7 BK_g2
  (try clear c_gv)
  replace BK_gv := bb BK_gv hb
  have c_gv := cf11 BK_gv
  (try clear c_gl)
  replace BK_gl := bb BK_gl hb
  have c_gl := cf1 BK_gl
  (try clear c_g4)
  replace BK_g4 := bb BK_g4 hb
  have c_g4 := cf3 BK_g4
  (try clear c_g5)
  replace BK_g5 := bb BK_g5 hb
  have c_g5 := cf2 BK_g5
  (try clear c_g6)
  replace BK_g6 := bb BK_g6 hb
  have c_g6 := cf2 BK_g6
  (try clear c_g8)
  replace BK_g8 := bb BK_g8 hb
  have c_g8 := cf2 BK_g8
  replace HJ := bs HJ hb
  clear hb
  (try clear c_ga)
  (try clear c_gb)
  (try clear c_g1)
  (try clear c_gc)
  (try clear c_gd)
  (try clear c_g2)
  (try clear c_gv)
  (try clear c_gl)
  (try clear c_g4)
  (try clear c_g5)
  (try clear c_g6)
  (try clear c_g8)
  refine ⟨_, rfl, ?_⟩
  refine hK.out _ _ ⟨(blk_cell BK_g1.out 0).trans rfl, (blk_cell BK_g2.out 0).trans rfl, (blk_cell BK_g2.out 1).trans rfl, (blk_cell BK_g2.out 2).trans rfl, (blk_cell BK_g2.out 3).trans rfl, (blk_cell BK_g2.out 4).trans rfl, (blk_cell BK_g2.out 5).trans rfl, (blk_cell BK_g2.out 6).trans rfl, (blk_cell BK_g4.out 0).trans rfl, (blk_cell BK_g4.out 1).trans rfl, (blk_cell BK_g4.out 2).trans rfl, (blk_cell BK_g5.out 0).trans rfl, (blk_cell BK_g5.out 1).trans rfl, (blk_cell BK_g6.out 0).trans rfl, (blk_cell BK_g6.out 1).trans rfl, (blk_cell BK_g8.out 0).trans rfl, (blk_cell BK_g8.out 1).trans rfl⟩ (fun hHeld => ?_)
  clear hK K
  refine norm_ (a' := ?_) ?_ ?_
  rotate_left
  ·show Act.put _ (some 58) _ = _
   simp only [Act.put, List.setIfInBounds_toArray, List.set_cons_zero, List.set_cons_succ, i64_w]
   rfl
  refine one_ (i := 18) (N := some 60) #[true, true, true, true, true, true, true, true, true, true, true, true, true, true, true, true, true, true, true, false, false] rfl rfl (one_of HT_.out (by kernel_rfl)) (by decide) (fun K hK => ?_)
  refine goes_ Tryd.func17 (by kernel_rfl) rfl #[.agg #[.slice Ad (compV awTypes awIts awTree).1.length cd, .slice Am (compV awTypes awIts awTree).2.length cm], .agg #[.slice (some ⟨gl, 0, none⟩) 1 1, .int .i64 (-1), .int .i64 0]] (by rfl) rfl rfl (by first | rfl | (simp [Act.eval]; done) | (go_simp; done) | simp [Act.eval, *]) ?_
  refine (code_Holds Ad cd (compV awTypes awIts awTree).1 Am cm (compV awTypes awIts awTree).2 (some ⟨gl, 0, none⟩) 1 [[awEv]] (-1) 0 W27 (HG.out.below HB.out) HRc.out HSl.out (aw_lists BK_gv.out BK_gl.out) (by intro l hl; rw [List.mem_singleton] at hl; subst hl; decide) (by decide) (by decide) (by rw [aw_comp]; decide) 6 (by decide) aw_run).mono ?_
  rintro e W28 ⟨rfl, hb⟩
  replace HB := bs HB hb
  (try clear c_ga)
  replace BK_ga := bb BK_ga hb
  have c_ga := cf1 BK_ga
  (try clear c_gb)
  replace BK_gb := bb BK_gb hb
  have c_gb := cf2 BK_gb
  (try clear c_g1)
  replace BK_g1 := bb BK_g1 hb
  have c_g1 := cf1 BK_g1
  (try clear c_gc)
  replace BK_gc := bb BK_gc hb
  have c_gc := cf1 BK_gc
  (try clear c_gd)
  replace BK_gd := bb BK_gd hb
  have c_gd := cf5 BK_gd
  (try clear c_g2)
  replace BK_g2 := bb BK_g2 hb
  have c_g2 := cf7 BK_g2
  (try clear c_gv)
  replace BK_gv := bb BK_gv hb
  have c_gv := cf11 BK_gv
  (try clear c_gl)
  replace BK_gl := bb BK_gl hb
  have c_gl := cf1 BK_gl
  (try clear c_g4)
  replace BK_g4 := bb BK_g4 hb
  have c_g4 := cf3 BK_g4
  (try clear c_g5)
  replace BK_g5 := bb BK_g5 hb
  have c_g5 := cf2 BK_g5
  (try clear c_g6)
  replace BK_g6 := bb BK_g6 hb
  have c_g6 := cf2 BK_g6
  (try clear c_g8)
  replace BK_g8 := bb BK_g8 hb
  have c_g8 := cf2 BK_g8
  replace HJ := bs HJ hb
  replace HRc := bC HRc hb
  replace HSl := bC HSl hb
  clear hb
  (try clear c_ga)
  (try clear c_gb)
  (try clear c_g1)
  (try clear c_gc)
  (try clear c_gd)
  (try clear c_g2)
  (try clear c_gv)
  (try clear c_gl)
  (try clear c_g4)
  (try clear c_g5)
  (try clear c_g6)
  (try clear c_g8)
  refine ⟨_, rfl, ?_⟩
  refine hK.out _ _ ⟨(blk_cell BK_g1.out 0).trans rfl, (blk_cell BK_g2.out 0).trans rfl, (blk_cell BK_g2.out 1).trans rfl, (blk_cell BK_g2.out 2).trans rfl, (blk_cell BK_g2.out 3).trans rfl, (blk_cell BK_g2.out 4).trans rfl, (blk_cell BK_g2.out 5).trans rfl, (blk_cell BK_g2.out 6).trans rfl, (blk_cell BK_g4.out 0).trans rfl, (blk_cell BK_g4.out 1).trans rfl, (blk_cell BK_g4.out 2).trans rfl, (blk_cell BK_g5.out 0).trans rfl, (blk_cell BK_g5.out 1).trans rfl, (blk_cell BK_g6.out 0).trans rfl, (blk_cell BK_g6.out 1).trans rfl, (blk_cell BK_g8.out 0).trans rfl, (blk_cell BK_g8.out 1).trans rfl⟩ (fun hHeld => ?_)
  clear hK K
  refine norm_ (a' := ?_) ?_ ?_
  rotate_left
  ·show Act.put _ (some 60) _ = _
   simp only [Act.put, List.setIfInBounds_toArray, List.set_cons_zero, List.set_cons_succ, i64_w]
   rfl
  refine pure_ (i := 19) (N := some 61) (v := ?_) (a' := ?_) #[true, true, true, true, true, true, true, true, true, true, true, true, true, true, true, true, true, true, true, true, false] rfl rfl (any_of HT_.out (by kernel_rfl)) (fun _ _ _ h => h) (Or.inl ⟨by rfl, ?_⟩) ?_ ?_
  rotate_left
  ·intro w'
   go_simp
   with_reducible rfl
  rotate_left
  ·simp only [Act.put, List.setIfInBounds_toArray, List.set_cons_zero, List.set_cons_succ, i64_w]
   rfl
  refine pure_ (i := 20) (N := some 0) (v := ?_) (a' := ?_) #[true, true, true, true, true, true, true, true, true, true, true, true, true, true, true, true, true, true, true, true, true] rfl rfl (any_of HT_.out (by kernel_rfl)) (fun _ _ _ h => h) (Or.inl ⟨by rfl, ?_⟩) ?_ ?_
  rotate_left
  ·intro w'
   go_simp
   with_reducible rfl
  rotate_left
  ·simp only [Act.put, List.setIfInBounds_toArray, List.set_cons_zero, List.set_cons_succ, i64_w]
   rfl
  refine done_ (done_of HT_.out (by kernel_rfl)) ?_
  go_wp2
  go_ret
  exact ⟨rfl, HB.out⟩
 refine value_ (w1 := ?_) (v := ?_) (by rfl) rfl ?_ ?_
 rotate_left 2
 ·go_simp
  constructor
  ·rfl
  rfl
 refine hK.out _ _ ⟨(blk_cell (blk_alloc BK_g1.out _) 0).trans rfl, (blk_cell (blk_alloc BK_g2.out _) 0).trans rfl, (blk_cell (blk_alloc BK_g2.out _) 1).trans rfl, (blk_cell (blk_alloc BK_g2.out _) 2).trans rfl, (blk_cell (blk_alloc BK_g2.out _) 3).trans rfl, (blk_cell (blk_alloc BK_g2.out _) 4).trans rfl, (blk_cell (blk_alloc BK_g2.out _) 5).trans rfl, (blk_cell (blk_alloc BK_g2.out _) 6).trans rfl, (blk_cell (blk_alloc BK_g4.out _) 0).trans rfl, (blk_cell (blk_alloc BK_g4.out _) 1).trans rfl, (blk_cell (blk_alloc BK_g4.out _) 2).trans rfl⟩ (fun hHeld => ?_)
 clear hK K
 refine norm_ (a' := ?_) ?_ ?_
 rotate_left
 ·show Act.put _ (some 6) _ = _
  simp only [Act.put, List.setIfInBounds_toArray, List.set_cons_zero, List.set_cons_succ, i64_w]
  rfl
 have hb := (Below.refl W19.heap.size W19).alloc (Nat.le_refl _) (.cells #[.bool false, .int .i64 0] 50)
 have hbox := blk_new W19 (.cells #[.bool false, .int .i64 0] 50)
 obtain ⟨g6, hg_⟩ : ∃ g6, g6 = W19.heap.size := ⟨_, rfl⟩
 rw [← hg_] at hbox ⊢
 generalize W19.alloc (.cells #[.bool false, .int .i64 0] 50) = W20 at hb hbox hHeld ⊢
 have GE_g6 := ge1 hg_ HB
 have GJ_g6 := ge1 hg_ HJ
 have NE_g6_ga := ne1 hg_ BK_ga
 have NE_ga_g6 := ne2 NE_g6_ga
 have NE_g6_gb := ne1 hg_ BK_gb
 have NE_gb_g6 := ne2 NE_g6_gb
 have NE_g6_g1 := ne1 hg_ BK_g1
 have NE_g1_g6 := ne2 NE_g6_g1
 have NE_g6_gc := ne1 hg_ BK_gc
 have NE_gc_g6 := ne2 NE_g6_gc
 have NE_g6_gd := ne1 hg_ BK_gd
 have NE_gd_g6 := ne2 NE_g6_gd
 have NE_g6_g2 := ne1 hg_ BK_g2
 have NE_g2_g6 := ne2 NE_g6_g2
 have NE_g6_gv := ne1 hg_ BK_gv
 have NE_gv_g6 := ne2 NE_g6_gv
 have NE_g6_gl := ne1 hg_ BK_gl
 have NE_gl_g6 := ne2 NE_g6_gl
 have NE_g6_g4 := ne1 hg_ BK_g4
 have NE_g4_g6 := ne2 NE_g6_g4
 have NE_g6_g5 := ne1 hg_ BK_g5
 have NE_g5_g6 := ne2 NE_g6_g5
 replace HB := bs HB hb
 (try clear c_ga)
 replace BK_ga := bb BK_ga hb
 have c_ga := cf1 BK_ga
 (try clear c_gb)
 replace BK_gb := bb BK_gb hb
 have c_gb := cf2 BK_gb
 (try clear c_g1)
 replace BK_g1 := bb BK_g1 hb
 have c_g1 := cf1 BK_g1
 (try clear c_gc)
 replace BK_gc := bb BK_gc hb
 have c_gc := cf1 BK_gc
 (try clear c_gd)
 replace BK_gd := bb BK_gd hb
 have c_gd := cf5 BK_gd
 (try clear c_g2)
 replace BK_g2 := bb BK_g2 hb
 have c_g2 := cf7 BK_g2
 (try clear c_gv)
 replace BK_gv := bb BK_gv hb
 have c_gv := cf11 BK_gv
 (try clear c_gl)
 replace BK_gl := bb BK_gl hb
 have c_gl := cf1 BK_gl
 (try clear c_g4)
 replace BK_g4 := bb BK_g4 hb
 have c_g4 := cf3 BK_g4
 (try clear c_g5)
 replace BK_g5 := bb BK_g5 hb
 have c_g5 := cf2 BK_g5
 replace HJ := bs HJ hb
 have BK_g6 := am hbox
 clear hb hbox hg_
 (try clear c_ga)
 (try clear c_gb)
 (try clear c_g1)
 (try clear c_gc)
 (try clear c_gd)
 (try clear c_g2)
 (try clear c_gv)
 (try clear c_gl)
 (try clear c_g4)
 (try clear c_g5)
 (try clear c_g6)
 refine one_ (i := 3) (N := some 36) #[true, true, true, true, true, false, false, false, false, true, false, false] rfl rfl (one_of HT_.out (by kernel_rfl)) (by decide) (fun K hK => ?_)
 refine goes_ Tryd.func8 (by kernel_rfl) rfl #[.agg #[.slice (some ⟨gb, 0, none⟩) 1 1], .agg #[.slice (some ⟨gd, 0, none⟩) 1 1, .int .i64 0, .int .i64 0, .slice none 0 0, .int .i64 0, .string ByteArray.empty, .slice none 0 0], .slice (some ⟨gt, 0, none⟩) 3 ct] (by rfl) rfl rfl (by first | rfl | (simp [Act.eval]; done) | (go_simp; done) | simp [Act.eval, *]) ?_
 refine (code_Compile (some ⟨gd, 0, none⟩) 1 awIts 0 0 none 0 [] 0 ByteArray.empty none 0 [] (some ⟨gb, 0, none⟩) 1 awTypes (some ⟨gt, 0, none⟩) ct awTree W20 (HGK.out.below HB.out) (aw_query BK_gc.out BK_gd.out) (aw_types BK_ga.out BK_gb.out) (Nat.le_refl _) (by decide) (Kd.C_below HT.out HJ.out) (by decide)).mono ?_
 rintro e W21 ⟨vc, vl, rfl, hRc, hSl, hb⟩
 obtain ⟨Ac, cc, rfl⟩ := Kd.R_slice hRc
 obtain ⟨Al, cl, rfl⟩ := Kd.S_slice hSl
 have HRc := am (Kd.R_reads' hRc).2.2
 have HSl := am (Kd.R_reads' (Kd.S_R hSl)).2.2
 clear hRc hSl
 replace HB := bs HB hb
 (try clear c_ga)
 replace BK_ga := bb BK_ga hb
 have c_ga := cf1 BK_ga
 (try clear c_gb)
 replace BK_gb := bb BK_gb hb
 have c_gb := cf2 BK_gb
 (try clear c_g1)
 replace BK_g1 := bb BK_g1 hb
 have c_g1 := cf1 BK_g1
 (try clear c_gc)
 replace BK_gc := bb BK_gc hb
 have c_gc := cf1 BK_gc
 (try clear c_gd)
 replace BK_gd := bb BK_gd hb
 have c_gd := cf5 BK_gd
 (try clear c_g2)
 replace BK_g2 := bb BK_g2 hb
 have c_g2 := cf7 BK_g2
 (try clear c_gv)
 replace BK_gv := bb BK_gv hb
 have c_gv := cf11 BK_gv
 (try clear c_gl)
 replace BK_gl := bb BK_gl hb
 have c_gl := cf1 BK_gl
 (try clear c_g4)
 replace BK_g4 := bb BK_g4 hb
 have c_g4 := cf3 BK_g4
 (try clear c_g5)
 replace BK_g5 := bb BK_g5 hb
 have c_g5 := cf2 BK_g5
 (try clear c_g6)
 replace BK_g6 := bb BK_g6 hb
 have c_g6 := cf2 BK_g6
 replace HJ := bs HJ hb
 clear hb
 (try clear c_ga)
 (try clear c_gb)
 (try clear c_g1)
 (try clear c_gc)
 (try clear c_gd)
 (try clear c_g2)
 (try clear c_gv)
 (try clear c_gl)
 (try clear c_g4)
 (try clear c_g5)
 (try clear c_g6)
 refine ⟨_, rfl, ?_⟩
 refine hK.out _ _ ⟨(blk_cell BK_g1.out 0).trans rfl, (blk_cell BK_g2.out 0).trans rfl, (blk_cell BK_g2.out 1).trans rfl, (blk_cell BK_g2.out 2).trans rfl, (blk_cell BK_g2.out 3).trans rfl, (blk_cell BK_g2.out 4).trans rfl, (blk_cell BK_g2.out 5).trans rfl, (blk_cell BK_g2.out 6).trans rfl, (blk_cell BK_g4.out 0).trans rfl, (blk_cell BK_g4.out 1).trans rfl, (blk_cell BK_g4.out 2).trans rfl⟩ (fun hHeld => ?_)
 clear hK K
 refine norm_ (a' := ?_) ?_ ?_
 rotate_left
 ·show Act.put _ (some 36) _ = _
  simp only [Act.put, List.setIfInBounds_toArray, List.set_cons_zero, List.set_cons_succ, i64_w]
  rfl
 refine one_ (i := 5) (N := some 38) #[true, true, true, true, true, true, false, false, false, true, false, false] rfl rfl (one_of HT_.out (by kernel_rfl)) (by decide) (fun K hK => ?_)
 refine goes_ Tryd.func10 (by kernel_rfl) rfl #[.agg #[.slice Ac (compV awTypes awIts awTree).1.length cc, .slice Al (compV awTypes awIts awTree).2.length cl], .agg #[.slice (some ⟨gl, 0, none⟩) 1 1, .int .i64 (-1), .int .i64 0]] (by rfl) rfl rfl (by first | rfl | (simp [Act.eval]; done) | (go_simp; done) | simp [Act.eval, *]) ?_
 refine (run_is Ac cc (compV awTypes awIts awTree).1 Al cl (compV awTypes awIts awTree).2 (some ⟨gl, 0, none⟩) 1 [[awEv]] (-1) 0 W21 (HG.out.below HB.out) HRc.out HSl.out (aw_lists BK_gv.out BK_gl.out) (by intro l hl; rw [List.mem_singleton] at hl; subst hl; decide) (by decide) (by decide) (by rw [aw_comp]; decide) true 6 0 aw_run).mono ?_
 rintro e W22 ⟨rfl, hb⟩
 replace HB := bs HB hb
 (try clear c_ga)
 replace BK_ga := bb BK_ga hb
 have c_ga := cf1 BK_ga
 (try clear c_gb)
 replace BK_gb := bb BK_gb hb
 have c_gb := cf2 BK_gb
 (try clear c_g1)
 replace BK_g1 := bb BK_g1 hb
 have c_g1 := cf1 BK_g1
 (try clear c_gc)
 replace BK_gc := bb BK_gc hb
 have c_gc := cf1 BK_gc
 (try clear c_gd)
 replace BK_gd := bb BK_gd hb
 have c_gd := cf5 BK_gd
 (try clear c_g2)
 replace BK_g2 := bb BK_g2 hb
 have c_g2 := cf7 BK_g2
 (try clear c_gv)
 replace BK_gv := bb BK_gv hb
 have c_gv := cf11 BK_gv
 (try clear c_gl)
 replace BK_gl := bb BK_gl hb
 have c_gl := cf1 BK_gl
 (try clear c_g4)
 replace BK_g4 := bb BK_g4 hb
 have c_g4 := cf3 BK_g4
 (try clear c_g5)
 replace BK_g5 := bb BK_g5 hb
 have c_g5 := cf2 BK_g5
 (try clear c_g6)
 replace BK_g6 := bb BK_g6 hb
 have c_g6 := cf2 BK_g6
 replace HJ := bs HJ hb
 replace HRc := bC HRc hb
 replace HSl := bC HSl hb
 clear hb
 (try clear c_ga)
 (try clear c_gb)
 (try clear c_g1)
 (try clear c_gc)
 (try clear c_gd)
 (try clear c_g2)
 (try clear c_gv)
 (try clear c_gl)
 (try clear c_g4)
 (try clear c_g5)
 (try clear c_g6)
 refine ⟨_, rfl, ?_⟩
 refine hK.out _ _ ⟨(blk_cell BK_g1.out 0).trans rfl, (blk_cell BK_g2.out 0).trans rfl, (blk_cell BK_g2.out 1).trans rfl, (blk_cell BK_g2.out 2).trans rfl, (blk_cell BK_g2.out 3).trans rfl, (blk_cell BK_g2.out 4).trans rfl, (blk_cell BK_g2.out 5).trans rfl, (blk_cell BK_g2.out 6).trans rfl, (blk_cell BK_g4.out 0).trans rfl, (blk_cell BK_g4.out 1).trans rfl, (blk_cell BK_g4.out 2).trans rfl⟩ (fun hHeld => ?_)
 clear hK K
 refine norm_ (a' := ?_) ?_ ?_
 rotate_left
 ·show Act.put _ (some 38) _ = _
  simp only [Act.put, List.setIfInBounds_toArray, List.set_cons_zero, List.set_cons_succ, i64_w]
  rfl
 refine pure_ (i := 6) (N := some 32) (v := ?_) (a' := ?_) #[true, true, true, true, true, true, true, false, false, true, false, false] rfl rfl (any_of HT_.out (by kernel_rfl)) (fun _ _ _ h => h) (Or.inl ⟨by rfl, ?_⟩) ?_ ?_
 rotate_left
 ·intro w'
  go_simp
  with_reducible rfl
 rotate_left
 ·simp only [Act.put, List.setIfInBounds_toArray, List.set_cons_zero, List.set_cons_succ, i64_w]
  rfl
 refine pure_ (i := 7) (N := some 39) (v := ?_) (a' := ?_) #[true, true, true, true, true, true, true, true, false, true, false, false] rfl rfl (any_of HT_.out (by kernel_rfl)) (fun _ _ _ h => h) (Or.inl ⟨by rfl, ?_⟩) ?_ ?_
 rotate_left
 ·intro w'
  go_simp
  with_reducible rfl
 rotate_left
 ·simp only [Act.put, List.setIfInBounds_toArray, List.set_cons_zero, List.set_cons_succ, i64_w]
  rfl
 refine pure_ (i := 8) (N := some 40) (v := ?_) (a' := ?_) #[true, true, true, true, true, true, true, true, true, true, false, false] rfl rfl (any_of HT_.out (by kernel_rfl)) (fun _ _ _ h => h) (Or.inl ⟨by rfl, ?_⟩) ?_ ?_
 rotate_left
 ·intro w'
  go_simp
  with_reducible rfl
 rotate_left
 ·simp only [Act.put, List.setIfInBounds_toArray, List.set_cons_zero, List.set_cons_succ, i64_w]
  rfl
 have c0 : W22.cell? ⟨g6, 0, none⟩ = some (.bool false) := (blk_cell BK_g6.out 0).trans rfl
 have c1 : W22.cell? ⟨g6, 1, none⟩ = some (.int .i64 0) := (blk_cell BK_g6.out 1).trans rfl
 have f0 := blk_frozen BK_g6.out 0
 have f1 := blk_frozen BK_g6.out 1
 refine last_ (i := 10) (N := none) #[true, true, true, true, true, true, true, true, true, true, true, false] rfl rfl (one_of HT_.out (by kernel_rfl)) (by decide) (fun K hK => ?_)
 refine skip_ (w1 := ?_) (by rfl) rfl ?_ ?_
 rotate_left
 ·go_simp
  rfl
 refine hK.out _ _ ?_
 clear hK K
 clear c0 c1 f0 f1
 refine pure_ (i := 11) (N := some 7) (v := ?_) (a' := ?_) #[true, true, true, true, true, true, true, true, true, true, true, true] rfl rfl (any_of HT_.out (by kernel_rfl)) (fun _ _ _ h => h) (Or.inl ⟨by rfl, ?_⟩) ?_ ?_
 rotate_left
 ·intro w'
  go_simp
  with_reducible rfl
 rotate_left
 ·simp only [Act.put, List.setIfInBounds_toArray, List.set_cons_zero, List.set_cons_succ, i64_w]
  rfl
 refine done_ (done_of HT_.out (by kernel_rfl)) ?_
 generalize hWQ : (W22.setCell ⟨g6, 0, none⟩ (.bool true)).setCell ⟨g6, 1, none⟩ (.int .i64 6) = WQ
 have HBq := am (show Below w.heap.size w WQ from by rw [← hWQ]; exact below_set (below_set HB.out GE_g6.out) GE_g6.out)
 have HJq := am (show Below W11.heap.size W11 WQ from by rw [← hWQ]; exact below_set (below_set HJ.out GJ_g6.out) GJ_g6.out)
 have BQ_ga : Aside0 (WQ.heap[ga]? = some (.cells #[.string (⟨#[120]⟩ : ByteArray)] 9 (0, 0))) := ⟨by rw [← hWQ]; exact blk_far (blk_far BK_ga.out NE_ga_g6 _) NE_ga_g6 _⟩
 have BQ_gb : Aside0 (WQ.heap[gb]? = some (.cells #[.string (⟨#[65]⟩ : ByteArray), .slice (some ⟨ga, 0, none⟩) 1 1] 65 (0, 0))) := ⟨by rw [← hWQ]; exact blk_far (blk_far BK_gb.out NE_gb_g6 _) NE_gb_g6 _⟩
 have BQ_g1 : Aside0 (WQ.heap[g1]? = some (.cells #[.slice (some ⟨gb, 0, none⟩) 1 1] 24 (0, 0))) := ⟨by rw [← hWQ]; exact blk_far (blk_far BK_g1.out NE_g1_g6 _) NE_g1_g6 _⟩
 have BQ_gc : Aside0 (WQ.heap[gc]? = some (.cells #[.string (⟨#[65]⟩ : ByteArray)] 9 (0, 0))) := ⟨by rw [← hWQ]; exact blk_far (blk_far BK_gc.out NE_gc_g6 _) NE_gc_g6 _⟩
 have BQ_gd : Aside0 (WQ.heap[gd]? = some (.cells #[.bool false, .slice (some ⟨gc, 0, none⟩) 1 1, .string (⟨#[97]⟩ : ByteArray), .int .i64 1, .int .i64 1] 67 (0, 0))) := ⟨by rw [← hWQ]; exact blk_far (blk_far BK_gd.out NE_gd_g6 _) NE_gd_g6 _⟩
 have BQ_g2 : Aside0 (WQ.heap[g2]? = some (.cells #[.slice (some ⟨gd, 0, none⟩) 1 1, .int .i64 0, .int .i64 0, .slice none 0 0, .int .i64 0, .string ByteArray.empty, .slice none 0 0] 31 (0, 0))) := ⟨by rw [← hWQ]; exact blk_far (blk_far BK_g2.out NE_g2_g6 _) NE_g2_g6 _⟩
 have BQ_gv : Aside0 (WQ.heap[gv]? = some (.cells #[.int .i64 1, .int .u64 0, .int .i64 0, .int .i64 7, .int .i64 0, .int .i64 0, .int .i64 0, .int .i64 0, .int .i64 0, .int .i64 0, .int .i64 0] 73 (0, 0))) := ⟨by rw [← hWQ]; exact blk_far (blk_far BK_gv.out NE_gv_g6 _) NE_gv_g6 _⟩
 have BQ_gl : Aside0 (WQ.heap[gl]? = some (.cells #[.slice (some ⟨gv, 0, none⟩) 1 1] 62 (0, 0))) := ⟨by rw [← hWQ]; exact blk_far (blk_far BK_gl.out NE_gl_g6 _) NE_gl_g6 _⟩
 have BQ_g4 : Aside0 (WQ.heap[g4]? = some (.cells #[.slice (some ⟨gl, 0, none⟩) 1 1, .int .i64 (-1), .int .i64 0] 34 (0, 0))) := ⟨by rw [← hWQ]; exact blk_far (blk_far BK_g4.out NE_g4_g6 _) NE_g4_g6 _⟩
 have BQ_g5 : Aside0 (WQ.heap[g5]? = some (.cells #[.bool true, .int .i64 6] 50 (0, 0))) := ⟨by rw [← hWQ]; exact blk_far (blk_far BK_g5.out NE_g5_g6 _) NE_g5_g6 _⟩
 have BQ_g6 : Aside0 (WQ.heap[g6]? = some (.cells #[.bool true, .int .i64 6] 50 (0, 0))) := ⟨by rw [← hWQ]; exact blk_put (cs := #[.bool true, .int .i64 0]) (blk_put (cs := #[.bool false, .int .i64 0]) BK_g6.out 0 _ rfl) 1 _ rfl⟩
 clear hWQ HB HJ HRc HSl BK_ga BK_gb BK_g1 BK_gc BK_gd BK_g2 BK_gv BK_gl BK_g4 BK_g5 BK_g6
 have HB := HBq
 have HJ := HJq
 have BK_ga := BQ_ga
 have BK_gb := BQ_gb
 have BK_g1 := BQ_g1
 have BK_gc := BQ_gc
 have BK_gd := BQ_gd
 have BK_g2 := BQ_g2
 have BK_gv := BQ_gv
 have BK_gl := BQ_gl
 have BK_g4 := BQ_g4
 have BK_g5 := BQ_g5
 have BK_g6 := BQ_g6
 clear HBq HJq BQ_ga BQ_gb BQ_g1 BQ_gc BQ_gd BQ_g2 BQ_gv BQ_gl BQ_g4 BQ_g5 BQ_g6
 go_wp2_with (first | ((with_reducible refine gate_dst (N := 8) rfl ?_); refine box_event ?hg (N := 8) ?hd (cs := #[.bool false, .int .i64 0]) (t := 50) ?hr ?_; (case hd => rfl); (case hg => rfl); (case hr => first | (go_simp; done) | (go_simp; rfl)); intro g8 hg_ W24 hbox hb; have GJ_g8 := ge1 hg_ HJ; have GE_g8 := ge1 hg_ HB; have NE_g8_ga := ne1 hg_ BK_ga; have NE_ga_g8 := ne2 NE_g8_ga; have NE_g8_gb := ne1 hg_ BK_gb; have NE_gb_g8 := ne2 NE_g8_gb; have NE_g8_g1 := ne1 hg_ BK_g1; have NE_g1_g8 := ne2 NE_g8_g1; have NE_g8_gc := ne1 hg_ BK_gc; have NE_gc_g8 := ne2 NE_g8_gc; have NE_g8_gd := ne1 hg_ BK_gd; have NE_gd_g8 := ne2 NE_g8_gd; have NE_g8_g2 := ne1 hg_ BK_g2; have NE_g2_g8 := ne2 NE_g8_g2; have NE_g8_gv := ne1 hg_ BK_gv; have NE_gv_g8 := ne2 NE_g8_gv; have NE_g8_gl := ne1 hg_ BK_gl; have NE_gl_g8 := ne2 NE_g8_gl; have NE_g8_g4 := ne1 hg_ BK_g4; have NE_g4_g8 := ne2 NE_g8_g4; have NE_g8_g5 := ne1 hg_ BK_g5; have NE_g5_g8 := ne2 NE_g8_g5; have NE_g8_g6 := ne1 hg_ BK_g6; have NE_g6_g8 := ne2 NE_g8_g6; replace HB := bs HB hb; (try clear c_ga); replace BK_ga := bb BK_ga hb; have c_ga := cf1 BK_ga; (try clear c_gb); replace BK_gb := bb BK_gb hb; have c_gb := cf2 BK_gb; (try clear c_g1); replace BK_g1 := bb BK_g1 hb; have c_g1 := cf1 BK_g1; (try clear c_gc); replace BK_gc := bb BK_gc hb; have c_gc := cf1 BK_gc; (try clear c_gd); replace BK_gd := bb BK_gd hb; have c_gd := cf5 BK_gd; (try clear c_g2); replace BK_g2 := bb BK_g2 hb; have c_g2 := cf7 BK_g2; (try clear c_gv); replace BK_gv := bb BK_gv hb; have c_gv := cf11 BK_gv; (try clear c_gl); replace BK_gl := bb BK_gl hb; have c_gl := cf1 BK_gl; (try clear c_g4); replace BK_g4 := bb BK_g4 hb; have c_g4 := cf3 BK_g4; (try clear c_g5); replace BK_g5 := bb BK_g5 hb; have c_g5 := cf2 BK_g5; (try clear c_g6); replace BK_g6 := bb BK_g6 hb; have c_g6 := cf2 BK_g6; replace HJ := bs HJ hb; have BK_g8 := am hbox; have c_g8 := cf2 BK_g8; clear hb hbox hg_) | ((with_reducible refine gate_store (t := 50) (p := 8) rfl ?_); refine store_event (t := 50) (p := 8) (v := ?vo_W25_13) (w1 := ?w1_W25_14) ?hg ?ho ?hn ?hr ?_; (case ho => rfl); (case hg => rfl); (case hn => rfl); (case hr => first | (go_simp; done) | (go_simp; rfl)); intro W25 hw; have hk := kb2 hw; replace HJ := sb2 HJ GJ_g8 hw; replace HB := sb2 HB GE_g8 hw; (try clear c_ga); replace BK_ga := bk BK_ga hk NE_ga_g8; have c_ga := cf1 BK_ga; (try clear c_gb); replace BK_gb := bk BK_gb hk NE_gb_g8; have c_gb := cf2 BK_gb; (try clear c_g1); replace BK_g1 := bk BK_g1 hk NE_g1_g8; have c_g1 := cf1 BK_g1; (try clear c_gc); replace BK_gc := bk BK_gc hk NE_gc_g8; have c_gc := cf1 BK_gc; (try clear c_gd); replace BK_gd := bk BK_gd hk NE_gd_g8; have c_gd := cf5 BK_gd; (try clear c_g2); replace BK_g2 := bk BK_g2 hk NE_g2_g8; have c_g2 := cf7 BK_g2; (try clear c_gv); replace BK_gv := bk BK_gv hk NE_gv_g8; have c_gv := cf11 BK_gv; (try clear c_gl); replace BK_gl := bk BK_gl hk NE_gl_g8; have c_gl := cf1 BK_gl; (try clear c_g4); replace BK_g4 := bk BK_g4 hk NE_g4_g8; have c_g4 := cf3 BK_g4; (try clear c_g5); replace BK_g5 := bk BK_g5 hk NE_g5_g8; have c_g5 := cf2 BK_g5; (try clear c_g6); replace BK_g6 := bk BK_g6 hk NE_g6_g8; have c_g6 := cf2 BK_g6; (try clear c_g8); replace BK_g8 := bp2 BK_g8 hw; have c_g8 := cf2 BK_g8; clear hk hw))
 refine start_ (n := 21) (S := fun w' => w'.cell? ⟨g1, 0, none⟩ = some (.slice (some ⟨gb, 0, none⟩) 1 1) ∧ w'.cell? ⟨g2, 0, none⟩ = some (.slice (some ⟨gd, 0, none⟩) 1 1) ∧ w'.cell? ⟨g2, 1, none⟩ = some (.int .i64 0) ∧ w'.cell? ⟨g2, 2, none⟩ = some (.int .i64 0) ∧ w'.cell? ⟨g2, 3, none⟩ = some (.slice none 0 0) ∧ w'.cell? ⟨g2, 4, none⟩ = some (.int .i64 0) ∧ w'.cell? ⟨g2, 5, none⟩ = some (.string ByteArray.empty) ∧ w'.cell? ⟨g2, 6, none⟩ = some (.slice none 0 0) ∧ w'.cell? ⟨g4, 0, none⟩ = some (.slice (some ⟨gl, 0, none⟩) 1 1) ∧ w'.cell? ⟨g4, 1, none⟩ = some (.int .i64 (-1)) ∧ w'.cell? ⟨g4, 2, none⟩ = some (.int .i64 0) ∧ w'.cell? ⟨g5, 0, none⟩ = some (.bool true) ∧ w'.cell? ⟨g5, 1, none⟩ = some (.int .i64 6) ∧ w'.cell? ⟨g6, 0, none⟩ = some (.bool true) ∧ w'.cell? ⟨g6, 1, none⟩ = some (.int .i64 6) ∧ w'.cell? ⟨g8, 0, none⟩ = some (.bool true) ∧ w'.cell? ⟨g8, 1, none⟩ = some (.int .i64 6)) (ds := []) #[false, false, false, false, false, false, false, false, false, false, false, false, false, false, false, false, false, false, false, false, false] (by kernel_rfl) rfl rfl ⟨(blk_cell BK_g1.out 0).trans rfl, (blk_cell BK_g2.out 0).trans rfl, (blk_cell BK_g2.out 1).trans rfl, (blk_cell BK_g2.out 2).trans rfl, (blk_cell BK_g2.out 3).trans rfl, (blk_cell BK_g2.out 4).trans rfl, (blk_cell BK_g2.out 5).trans rfl, (blk_cell BK_g2.out 6).trans rfl, (blk_cell BK_g4.out 0).trans rfl, (blk_cell BK_g4.out 1).trans rfl, (blk_cell BK_g4.out 2).trans rfl, (blk_cell BK_g5.out 0).trans rfl, (blk_cell BK_g5.out 1).trans rfl, (blk_cell BK_g6.out 0).trans rfl, (blk_cell BK_g6.out 1).trans rfl, (blk_cell BK_g8.out 0).trans rfl, (blk_cell BK_g8.out 1).trans rfl⟩ (fun hHeld => ?_)
 refine with_tabW aw_q.tab aw_q.bits (fun HT_ HW_ => ?_)
 (try clear c_ga)
 (try clear c_gb)
 (try clear c_g1)
 (try clear c_gc)
 (try clear c_gd)
 (try clear c_g2)
 (try clear c_gv)
 (try clear c_gl)
 (try clear c_g4)
 (try clear c_g5)
 (try clear c_g6)
 (try clear c_g8)
 have hb := below_drew1 (Below.refl W25.heap.size W25)
 generalize W25.drew = W26 at hHeld hb ⊢
 replace HB := bs HB hb
 (try clear c_ga)
 replace BK_ga := bb BK_ga hb
 have c_ga := cf1 BK_ga
 (try clear c_gb)
 replace BK_gb := bb BK_gb hb
 have c_gb := cf2 BK_gb
 (try clear c_g1)
 replace BK_g1 := bb BK_g1 hb
 have c_g1 := cf1 BK_g1
 (try clear c_gc)
 replace BK_gc := bb BK_gc hb
 have c_gc := cf1 BK_gc
 (try clear c_gd)
 replace BK_gd := bb BK_gd hb
 have c_gd := cf5 BK_gd
 (try clear c_g2)
 replace BK_g2 := bb BK_g2 hb
 have c_g2 := cf7 BK_g2
 (try clear c_gv)
 replace BK_gv := bb BK_gv hb
 have c_gv := cf11 BK_gv
 (try clear c_gl)
 replace BK_gl := bb BK_gl hb
 have c_gl := cf1 BK_gl
 (try clear c_g4)
 replace BK_g4 := bb BK_g4 hb
 have c_g4 := cf3 BK_g4
 (try clear c_g5)
 replace BK_g5 := bb BK_g5 hb
 have c_g5 := cf2 BK_g5
 (try clear c_g6)
 replace BK_g6 := bb BK_g6 hb
 have c_g6 := cf2 BK_g6
 (try clear c_g8)
 replace BK_g8 := bb BK_g8 hb
 have c_g8 := cf2 BK_g8
 replace HJ := bs HJ hb
 clear hb
 (try clear c_ga)
 (try clear c_gb)
 (try clear c_g1)
 (try clear c_gc)
 (try clear c_gd)
 (try clear c_g2)
 (try clear c_gv)
 (try clear c_gl)
 (try clear c_g4)
 (try clear c_g5)
 (try clear c_g6)
 (try clear c_g8)
 refine take_ (i := 0) (N := some 42) (v := ?_) (a' := ?_) #[true, false, false, false, false, false, false, false, false, false, false, false, false, false, false, false, false, false, false, false, false] rfl rfl (take_ofW HT_.out HW_.out (by kernel_rfl)) (fun _ _ _ h => h) (Or.inl ⟨by rfl, ?_⟩) hHeld ?_ ?_
 rotate_left
 ·rintro w' ⟨s0, s1, s2, s3, s4, s5, s6, s7, s8, s9, s10, s11, s12, s13, s14, s15, s16⟩
  go_simp
  with_reducible rfl
 rotate_left
 ·simp only [Act.put, List.setIfInBounds_toArray, List.set_cons_zero, List.set_cons_succ, i64_w]
  rfl
 refine take_ (i := 1) (N := some 43) (v := ?_) (a' := ?_) #[true, true, false, false, false, false, false, false, false, false, false, false, false, false, false, false, false, false, false, false, false] rfl rfl (take_ofW HT_.out HW_.out (by kernel_rfl)) (fun _ _ _ h => h) (Or.inl ⟨by rfl, ?_⟩) hHeld ?_ ?_
 rotate_left
 ·rintro w' ⟨s0, s1, s2, s3, s4, s5, s6, s7, s8, s9, s10, s11, s12, s13, s14, s15, s16⟩
  go_simp
  with_reducible rfl
 rotate_left
 ·simp only [Act.put, List.setIfInBounds_toArray, List.set_cons_zero, List.set_cons_succ, i64_w]
  rfl
 refine pure_ (i := 2) (N := some 44) (v := ?_) (a' := ?_) #[true, true, true, false, false, false, false, false, false, false, false, false, false, false, false, false, false, false, false, false, false] rfl rfl (any_of HT_.out (by kernel_rfl)) (fun _ _ _ h => h) (Or.inl ⟨by rfl, ?_⟩) ?_ ?_
 rotate_left
 ·intro w'
  go_simp
  with_reducible rfl
 rotate_left
 ·simp only [Act.put, List.setIfInBounds_toArray, List.set_cons_zero, List.set_cons_succ, i64_w]
  rfl
 refine pure_ (i := 3) (N := some 45) (v := ?_) (a' := ?_) #[true, true, true, true, false, false, false, false, false, false, false, false, false, false, false, false, false, false, false, false, false] rfl rfl (any_of HT_.out (by kernel_rfl)) (fun _ _ _ h => h) (Or.inl ⟨by rfl, ?_⟩) ?_ ?_
 rotate_left
 ·intro w'
  go_simp
  with_reducible rfl
 rotate_left
 ·simp only [Act.put, List.setIfInBounds_toArray, List.set_cons_zero, List.set_cons_succ, i64_w]
  rfl
 refine take_ (i := 4) (N := some 46) (v := ?_) (a' := ?_) #[true, true, true, true, true, false, false, false, false, false, false, false, false, false, false, false, false, false, false, false, false] rfl rfl (take_ofW HT_.out HW_.out (by kernel_rfl)) (fun _ _ _ h => h) (Or.inl ⟨by rfl, ?_⟩) hHeld ?_ ?_
 rotate_left
 ·rintro w' ⟨s0, s1, s2, s3, s4, s5, s6, s7, s8, s9, s10, s11, s12, s13, s14, s15, s16⟩
  go_simp
  with_reducible rfl
 rotate_left
 ·simp only [Act.put, List.setIfInBounds_toArray, List.set_cons_zero, List.set_cons_succ, i64_w]
  rfl
 refine take_ (i := 5) (N := some 47) (v := ?_) (a' := ?_) #[true, true, true, true, true, true, false, false, false, false, false, false, false, false, false, false, false, false, false, false, false] rfl rfl (take_ofW HT_.out HW_.out (by kernel_rfl)) (fun _ _ _ h => h) (Or.inl ⟨by rfl, ?_⟩) hHeld ?_ ?_
 rotate_left
 ·rintro w' ⟨s0, s1, s2, s3, s4, s5, s6, s7, s8, s9, s10, s11, s12, s13, s14, s15, s16⟩
  go_simp
  with_reducible rfl
 rotate_left
 ·simp only [Act.put, List.setIfInBounds_toArray, List.set_cons_zero, List.set_cons_succ, i64_w]
  rfl
 refine pure_ (i := 6) (N := some 48) (v := ?_) (a' := ?_) #[true, true, true, true, true, true, true, false, false, false, false, false, false, false, false, false, false, false, false, false, false] rfl rfl (any_of HT_.out (by kernel_rfl)) (fun _ _ _ h => h) (Or.inl ⟨by rfl, ?_⟩) ?_ ?_
 rotate_left
 ·intro w'
  go_simp
  with_reducible rfl
 rotate_left
 ·simp only [Act.put, List.setIfInBounds_toArray, List.set_cons_zero, List.set_cons_succ, i64_w]
  rfl
 refine pure_ (i := 7) (N := some 49) (v := ?_) (a' := ?_) #[true, true, true, true, true, true, true, true, false, false, false, false, false, false, false, false, false, false, false, false, false] rfl rfl (any_of HT_.out (by kernel_rfl)) (fun _ _ _ h => h) (Or.inl ⟨by rfl, ?_⟩) ?_ ?_
 rotate_left
 ·intro w'
  go_simp
  with_reducible rfl
 rotate_left
 ·simp only [Act.put, List.setIfInBounds_toArray, List.set_cons_zero, List.set_cons_succ, i64_w]
  rfl
 refine pure_ (i := 8) (N := some 50) (v := ?_) (a' := ?_) #[true, true, true, true, true, true, true, true, true, false, false, false, false, false, false, false, false, false, false, false, false] rfl rfl (any_of HT_.out (by kernel_rfl)) (fun _ _ _ h => h) (Or.inl ⟨by rfl, ?_⟩) ?_ ?_
 rotate_left
 ·intro w'
  go_simp
  with_reducible rfl
 rotate_left
 ·simp only [Act.put, List.setIfInBounds_toArray, List.set_cons_zero, List.set_cons_succ, i64_w]
  rfl
 refine pure_ (i := 9) (N := some 51) (v := ?_) (a' := ?_) #[true, true, true, true, true, true, true, true, true, true, false, false, false, false, false, false, false, false, false, false, false] rfl rfl (any_of HT_.out (by kernel_rfl)) (fun _ _ _ h => h) (Or.inl ⟨by rfl, ?_⟩) ?_ ?_
 rotate_left
 ·intro w'
  go_simp
  with_reducible rfl
 rotate_left
 ·simp only [Act.put, List.setIfInBounds_toArray, List.set_cons_zero, List.set_cons_succ, i64_w]
  rfl
 refine pure_ (i := 10) (N := some 52) (v := ?_) (a' := ?_) #[true, true, true, true, true, true, true, true, true, true, true, false, false, false, false, false, false, false, false, false, false] rfl rfl (any_of HT_.out (by kernel_rfl)) (fun _ _ _ h => h) (Or.inl ⟨by rfl, ?_⟩) ?_ ?_
 rotate_left
 ·intro w'
  go_simp
  with_reducible rfl
 rotate_left
 ·simp only [Act.put, List.setIfInBounds_toArray, List.set_cons_zero, List.set_cons_succ, i64_w]
  rfl
 refine pure_ (i := 11) (N := some 53) (v := ?_) (a' := ?_) #[true, true, true, true, true, true, true, true, true, true, true, true, false, false, false, false, false, false, false, false, false] rfl rfl (any_of HT_.out (by kernel_rfl)) (fun _ _ _ h => h) (Or.inl ⟨by rfl, ?_⟩) ?_ ?_
 rotate_left
 ·intro w'
  go_simp
  with_reducible rfl
 rotate_left
 ·simp only [Act.put, List.setIfInBounds_toArray, List.set_cons_zero, List.set_cons_succ, i64_w]
  rfl
 refine pure_ (i := 12) (N := some 54) (v := ?_) (a' := ?_) #[true, true, true, true, true, true, true, true, true, true, true, true, true, false, false, false, false, false, false, false, false] rfl rfl (any_of HT_.out (by kernel_rfl)) (fun _ _ _ h => h) (Or.inl ⟨by rfl, ?_⟩) ?_ ?_
 rotate_left
 ·intro w'
  go_simp
  with_reducible rfl
 rotate_left
 ·simp only [Act.put, List.setIfInBounds_toArray, List.set_cons_zero, List.set_cons_succ, i64_w]
  rfl
 refine take_ (i := 13) (N := some 55) (v := ?_) (a' := ?_) #[true, true, true, true, true, true, true, true, true, true, true, true, true, true, false, false, false, false, false, false, false] rfl rfl (take_ofW HT_.out HW_.out (by kernel_rfl)) (fun _ _ _ h => h) (Or.inl ⟨by rfl, ?_⟩) hHeld ?_ ?_
 rotate_left
 ·rintro w' ⟨s0, s1, s2, s3, s4, s5, s6, s7, s8, s9, s10, s11, s12, s13, s14, s15, s16⟩
  go_simp
  with_reducible rfl
 rotate_left
 ·simp only [Act.put, List.setIfInBounds_toArray, List.set_cons_zero, List.set_cons_succ, i64_w]
  rfl
 refine take_ (i := 14) (N := some 56) (v := ?_) (a' := ?_) #[true, true, true, true, true, true, true, true, true, true, true, true, true, true, true, false, false, false, false, false, false] rfl rfl (take_ofW HT_.out HW_.out (by kernel_rfl)) (fun _ _ _ h => h) (Or.inl ⟨by rfl, ?_⟩) hHeld ?_ ?_
 rotate_left
 ·rintro w' ⟨s0, s1, s2, s3, s4, s5, s6, s7, s8, s9, s10, s11, s12, s13, s14, s15, s16⟩
  go_simp
  with_reducible rfl
 rotate_left
 ·simp only [Act.put, List.setIfInBounds_toArray, List.set_cons_zero, List.set_cons_succ, i64_w]
  rfl
 refine pure_ (i := 15) (N := some 57) (v := ?_) (a' := ?_) #[true, true, true, true, true, true, true, true, true, true, true, true, true, true, true, true, false, false, false, false, false] rfl rfl (any_of HT_.out (by kernel_rfl)) (fun _ _ _ h => h) (Or.inl ⟨by rfl, ?_⟩) ?_ ?_
 rotate_left
 ·intro w'
  go_simp
  with_reducible rfl
 rotate_left
 ·simp only [Act.put, List.setIfInBounds_toArray, List.set_cons_zero, List.set_cons_succ, i64_w]
  rfl
 refine take_ (i := 17) (N := some 59) (v := ?_) (a' := ?_) #[true, true, true, true, true, true, true, true, true, true, true, true, true, true, true, true, false, true, false, false, false] rfl rfl (take_ofW HT_.out HW_.out (by kernel_rfl)) (fun _ _ _ h => h) (Or.inl ⟨by rfl, ?_⟩) hHeld ?_ ?_
 rotate_left
 ·rintro w' ⟨s0, s1, s2, s3, s4, s5, s6, s7, s8, s9, s10, s11, s12, s13, s14, s15, s16⟩
  go_simp
  with_reducible rfl
 rotate_left
 ·simp only [Act.put, List.setIfInBounds_toArray, List.set_cons_zero, List.set_cons_succ, i64_w]
  rfl
 refine one_ (i := 16) (N := some 58) #[true, true, true, true, true, true, true, true, true, true, true, true, true, true, true, true, true, true, false, false, false] rfl rfl (one_of HT_.out (by kernel_rfl)) (by decide) (fun K hK => ?_)
 refine goes_ Tryd.func8 (by kernel_rfl) rfl #[.agg #[.slice (some ⟨gb, 0, none⟩) 1 1], .agg #[.slice (some ⟨gd, 0, none⟩) 1 1, .int .i64 0, .int .i64 0, .slice none 0 0, .int .i64 0, .string ByteArray.empty, .slice none 0 0], .slice (some ⟨gt, 0, none⟩) 3 ct] (by rfl) rfl rfl (by first | rfl | (simp [Act.eval]; done) | (go_simp; done) | simp [Act.eval, *]) ?_
 refine (code_Compile (some ⟨gd, 0, none⟩) 1 awIts 0 0 none 0 [] 0 ByteArray.empty none 0 [] (some ⟨gb, 0, none⟩) 1 awTypes (some ⟨gt, 0, none⟩) ct awTree W26 (HGK.out.below HB.out) (aw_query BK_gc.out BK_gd.out) (aw_types BK_ga.out BK_gb.out) (Nat.le_refl _) (by decide) (Kd.C_below HT.out HJ.out) (by decide)).mono ?_
 rintro e W27 ⟨vc, vl, rfl, hRc, hSl, hb⟩
 obtain ⟨Ad, cd, rfl⟩ := Kd.R_slice hRc
 obtain ⟨Am, cm, rfl⟩ := Kd.S_slice hSl
 have HRc := am (Kd.R_reads' hRc).2.2
 have HSl := am (Kd.R_reads' (Kd.S_R hSl)).2.2
 clear hRc hSl
 replace HB := bs HB hb
 (try clear c_ga)
 replace BK_ga := bb BK_ga hb
 have c_ga := cf1 BK_ga
 (try clear c_gb)
 replace BK_gb := bb BK_gb hb
 have c_gb := cf2 BK_gb
 (try clear c_g1)
 replace BK_g1 := bb BK_g1 hb
 have c_g1 := cf1 BK_g1
 (try clear c_gc)
 replace BK_gc := bb BK_gc hb
 have c_gc := cf1 BK_gc
 (try clear c_gd)
 replace BK_gd := bb BK_gd hb
 have c_gd := cf5 BK_gd
 (try clear c_g2)
 replace BK_g2 := bb BK_g2 hb
 have c_g2 := cf7 BK_g2
 (try clear c_gv)
 replace BK_gv := bb BK_gv hb
 have c_gv := cf11 BK_gv
 (try clear c_gl)
 replace BK_gl := bb BK_gl hb
 have c_gl := cf1 BK_gl
 (try clear c_g4)
 replace BK_g4 := bb BK_g4 hb
 have c_g4 := cf3 BK_g4
 (try clear c_g5)
 replace BK_g5 := bb BK_g5 hb
 have c_g5 := cf2 BK_g5
 (try clear c_g6)
 replace BK_g6 := bb BK_g6 hb
 have c_g6 := cf2 BK_g6
 (try clear c_g8)
 replace BK_g8 := bb BK_g8 hb
 have c_g8 := cf2 BK_g8
 replace HJ := bs HJ hb
 clear hb
 (try clear c_ga)
 (try clear c_gb)
 (try clear c_g1)
 (try clear c_gc)
 (try clear c_gd)
 (try clear c_g2)
 (try clear c_gv)
 (try clear c_gl)
 (try clear c_g4)
 (try clear c_g5)
 (try clear c_g6)
 (try clear c_g8)
 refine ⟨_, rfl, ?_⟩
 refine hK.out _ _ ⟨(blk_cell BK_g1.out 0).trans rfl, (blk_cell BK_g2.out 0).trans rfl, (blk_cell BK_g2.out 1).trans rfl, (blk_cell BK_g2.out 2).trans rfl, (blk_cell BK_g2.out 3).trans rfl, (blk_cell BK_g2.out 4).trans rfl, (blk_cell BK_g2.out 5).trans rfl, (blk_cell BK_g2.out 6).trans rfl, (blk_cell BK_g4.out 0).trans rfl, (blk_cell BK_g4.out 1).trans rfl, (blk_cell BK_g4.out 2).trans rfl, (blk_cell BK_g5.out 0).trans rfl, (blk_cell BK_g5.out 1).trans rfl, (blk_cell BK_g6.out 0).trans rfl, (blk_cell BK_g6.out 1).trans rfl, (blk_cell BK_g8.out 0).trans rfl, (blk_cell BK_g8.out 1).trans rfl⟩ (fun hHeld => ?_)
 clear hK K
 refine norm_ (a' := ?_) ?_ ?_
 rotate_left
 ·show Act.put _ (some 58) _ = _
  simp only [Act.put, List.setIfInBounds_toArray, List.set_cons_zero, List.set_cons_succ, i64_w]
  rfl
 refine one_ (i := 18) (N := some 60) #[true, true, true, true, true, true, true, true, true, true, true, true, true, true, true, true, true, true, true, false, false] rfl rfl (one_of HT_.out (by kernel_rfl)) (by decide) (fun K hK => ?_)
 refine goes_ Tryd.func17 (by kernel_rfl) rfl #[.agg #[.slice Ad (compV awTypes awIts awTree).1.length cd, .slice Am (compV awTypes awIts awTree).2.length cm], .agg #[.slice (some ⟨gl, 0, none⟩) 1 1, .int .i64 (-1), .int .i64 0]] (by rfl) rfl rfl (by first | rfl | (simp [Act.eval]; done) | (go_simp; done) | simp [Act.eval, *]) ?_
 refine (code_Holds Ad cd (compV awTypes awIts awTree).1 Am cm (compV awTypes awIts awTree).2 (some ⟨gl, 0, none⟩) 1 [[awEv]] (-1) 0 W27 (HG.out.below HB.out) HRc.out HSl.out (aw_lists BK_gv.out BK_gl.out) (by intro l hl; rw [List.mem_singleton] at hl; subst hl; decide) (by decide) (by decide) (by rw [aw_comp]; decide) 6 (by decide) aw_run).mono ?_
 rintro e W28 ⟨rfl, hb⟩
 replace HB := bs HB hb
 (try clear c_ga)
 replace BK_ga := bb BK_ga hb
 have c_ga := cf1 BK_ga
 (try clear c_gb)
 replace BK_gb := bb BK_gb hb
 have c_gb := cf2 BK_gb
 (try clear c_g1)
 replace BK_g1 := bb BK_g1 hb
 have c_g1 := cf1 BK_g1
 (try clear c_gc)
 replace BK_gc := bb BK_gc hb
 have c_gc := cf1 BK_gc
 (try clear c_gd)
 replace BK_gd := bb BK_gd hb
 have c_gd := cf5 BK_gd
 (try clear c_g2)
 replace BK_g2 := bb BK_g2 hb
 have c_g2 := cf7 BK_g2
 (try clear c_gv)
 replace BK_gv := bb BK_gv hb
 have c_gv := cf11 BK_gv
 (try clear c_gl)
 replace BK_gl := bb BK_gl hb
 have c_gl := cf1 BK_gl
 (try clear c_g4)
 replace BK_g4 := bb BK_g4 hb
 have c_g4 := cf3 BK_g4
 (try clear c_g5)
 replace BK_g5 := bb BK_g5 hb
 have c_g5 := cf2 BK_g5
 (try clear c_g6)
 replace BK_g6 := bb BK_g6 hb
 have c_g6 := cf2 BK_g6
 (try clear c_g8)
 replace BK_g8 := bb BK_g8 hb
 have c_g8 := cf2 BK_g8
 replace HJ := bs HJ hb
 replace HRc := bC HRc hb
 replace HSl := bC HSl hb
 clear hb
 (try clear c_ga)
 (try clear c_gb)
 (try clear c_g1)
 (try clear c_gc)
 (try clear c_gd)
 (try clear c_g2)
 (try clear c_gv)
 (try clear c_gl)
 (try clear c_g4)
 (try clear c_g5)
 (try clear c_g6)
 (try clear c_g8)
 refine ⟨_, rfl, ?_⟩
 refine hK.out _ _ ⟨(blk_cell BK_g1.out 0).trans rfl, (blk_cell BK_g2.out 0).trans rfl, (blk_cell BK_g2.out 1).trans rfl, (blk_cell BK_g2.out 2).trans rfl, (blk_cell BK_g2.out 3).trans rfl, (blk_cell BK_g2.out 4).trans rfl, (blk_cell BK_g2.out 5).trans rfl, (blk_cell BK_g2.out 6).trans rfl, (blk_cell BK_g4.out 0).trans rfl, (blk_cell BK_g4.out 1).trans rfl, (blk_cell BK_g4.out 2).trans rfl, (blk_cell BK_g5.out 0).trans rfl, (blk_cell BK_g5.out 1).trans rfl, (blk_cell BK_g6.out 0).trans rfl, (blk_cell BK_g6.out 1).trans rfl, (blk_cell BK_g8.out 0).trans rfl, (blk_cell BK_g8.out 1).trans rfl⟩ (fun hHeld => ?_)
 clear hK K
 refine norm_ (a' := ?_) ?_ ?_
 rotate_left
 ·show Act.put _ (some 60) _ = _
  simp only [Act.put, List.setIfInBounds_toArray, List.set_cons_zero, List.set_cons_succ, i64_w]
  rfl
 refine pure_ (i := 19) (N := some 61) (v := ?_) (a' := ?_) #[true, true, true, true, true, true, true, true, true, true, true, true, true, true, true, true, true, true, true, true, false] rfl rfl (any_of HT_.out (by kernel_rfl)) (fun _ _ _ h => h) (Or.inl ⟨by rfl, ?_⟩) ?_ ?_
 rotate_left
 ·intro w'
  go_simp
  with_reducible rfl
 rotate_left
 ·simp only [Act.put, List.setIfInBounds_toArray, List.set_cons_zero, List.set_cons_succ, i64_w]
  rfl
 refine pure_ (i := 20) (N := some 0) (v := ?_) (a' := ?_) #[true, true, true, true, true, true, true, true, true, true, true, true, true, true, true, true, true, true, true, true, true] rfl rfl (any_of HT_.out (by kernel_rfl)) (fun _ _ _ h => h) (Or.inl ⟨by rfl, ?_⟩) ?_ ?_
 rotate_left
 ·intro w'
  go_simp
  with_reducible rfl
 rotate_left
 ·simp only [Act.put, List.setIfInBounds_toArray, List.set_cons_zero, List.set_cons_succ, i64_w]
  rfl
 refine done_ (done_of HT_.out (by kernel_rfl)) ?_
 go_wp2
 go_ret
 exact ⟨rfl, HB.out⟩
end Go.Proofs.YtbhpjpeknooppaaDoor.M
