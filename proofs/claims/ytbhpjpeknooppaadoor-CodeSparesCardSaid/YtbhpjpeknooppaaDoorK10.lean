/- The contract of code.runnable. Conditions: the query and the nodes are read. -/
import Derived.Test.YtbhpjpeknooppaaDoorK09
namespace Go.Proofs.YtbhpjpeknooppaaDoor.M
open Go.RowKit Go.Proofs.YtbhpjpeknooppaaDoorW.PrintWords Go.Proofs.YtbhpjpeknooppaaDoorW.PrintLast Go.Proofs.YtbhpjpeknooppaaDoorW.PrintMore
open Go.Proofs.YtbhpjpeknooppaaDoor.PCodeSpares
set_option linter.unusedVariables false
def truthO (o : Int) : Bool := decide (o = 2 ∨ o = 3 ∨ o = 13 ∨ (19 ≤ o ∧ o ≤ 26))
theorem truthO_f (o : Int) : code_truth.f o = some (truthO o) := by
 unfold code_truth.f truthO
 by_cases h2 : o = 2
 ·subst h2; rfl
 by_cases h3 : o = 3
 ·subst h3; rfl
 by_cases h13 : o = 13
 ·subst h13; rfl
 by_cases h25 : o = 25
 ·subst h25; rfl
 by_cases h26 : o = 26
 ·subst h26; rfl
 by_cases h19 : o = 19
 ·subst h19; rfl
 by_cases h20 : o = 20
 ·subst h20; rfl
 by_cases h21 : o = 21
 ·subst h21; rfl
 by_cases h22 : o = 22
 ·subst h22; rfl
 by_cases h23 : o = 23
 ·subst h23; rfl
 by_cases h24 : o = 24
 ·subst h24; rfl
 rw [if_neg h2, if_neg h3, if_neg h13, if_neg h25, if_neg h26, if_neg h19, if_neg h20, if_neg h21, if_neg h22, if_neg h23, if_neg h24]
 congr 1
 symm
 simp only [decide_eq_false_iff_not]
 omega
def itemI (v : ByteArray) : List S67 → Nat → Int × Bool
 | [], _ => (0, false)
 | x :: l, i => if x.f2.toList = v.toList then ((i : Int), true) else itemI v l (i + 1)
def itemV (its : List S67) (v : ByteArray) : Int × Bool := itemI v its 0
theorem itemI_l0 (its : List S67) (v : ByteArray) (a1 a2 : Int) (l3 : List S61) (a4 : Int) (a5 : ByteArray) (l6 : List (List S61)) (hn : its.length ≤ 4611686018427387904) : ∀ (d i : Nat), its.length < d + i → i ≤ its.length →
  code_itemOf.l0 d v (its.length : Int) (i : Int) its a1 a2 l3 a4 a5 l6 = some (itemI v (its.drop i) i) := by
 intro d
 induction d with
 | zero => intro i h1 h2; omega
 | succ d ih =>
  intro i h1 h2
  by_cases hi : i < its.length
  ·have hd : its.drop i = its[i] :: its.drop (i + 1) := List.drop_eq_getElem_cons hi
   have hr : rd_T67 its (i : Int) = its[i] := by
    unfold rd_T67
    rw [Int.toNat_natCast, List.getD_eq_getElem?_getD, List.getElem?_eq_getElem hi]
    rfl
   have hw : wrap64 ((i : Int) + 1) = ((i + 1 : Nat) : Int) := by rw [IntWalk.wrap64_in _ (by omega)]; rfl
   rw [code_itemOf.l0, if_pos (by omega), if_pos (by omega), if_pos (by omega), hr, hd, itemI, hw, ih (i + 1) (by omega) (by omega)]
   split <;> rfl
  obtain rfl : i = its.length := by omega
  rw [code_itemOf.l0, if_neg (by omega), List.drop_length, itemI]
theorem itemV_f (its : List S67) (v : ByteArray) (a1 a2 : Int) (l3 : List S61) (a4 : Int) (a5 : ByteArray) (l6 : List (List S61)) (hn : its.length ≤ 4611686018427387904) : code_itemOf.f (its.length + 1) its a1 a2 l3 a4 a5 l6 v = some (itemV its v) := by
 have h := itemI_l0 its v a1 a2 l3 a4 a5 l6 hn (its.length + 1) 0 (by omega) (by omega)
 rw [List.drop_zero] at h
 exact h
def wantO (o : Int) : Bool := decide (o = 13 ∨ o = 25 ∨ o = 26)
def nodeR (its : List S67) (t : List S61) (n : S61) : Bool :=
 if 4 ≤ n.f0 ∧ n.f0 ≤ 11 then (itemV its n.f2).2
 else if 12 ≤ n.f0 then (truthO (rd_T61 t n.f4).f0 == wantO n.f0) && !(decide (0 ≤ n.f5) && (truthO (rd_T61 t n.f5).f0 != wantO n.f0))
 else true
def itemN (its : List S67) (n : S61) : Int := if 4 ≤ n.f0 ∧ n.f0 ≤ 11 then (itemV its n.f2).1 else 0
def rnbV (its : List S67) (t : List S61) : Bool := treeV t && t.all (nodeR its t)
def itemsV (its : List S67) (t : List S61) : List Int := t.map (itemN its)
def itemsK (its : List S67) (t : List S61) (k : Nat) : List Int := (itemsV its t).take k ++ List.replicate (t.length - k) 0
theorem itemsK_zero (its : List S67) (t : List S61) : itemsK its t 0 = List.replicate t.length 0 := by simp [itemsK]
theorem itemsK_full (its : List S67) (t : List S61) : itemsK its t t.length = itemsV its t := by
 unfold itemsK
 rw [Nat.sub_self, List.replicate_zero, List.append_nil, List.take_of_length_le (by simp [itemsV])]
theorem rdT61_lt {t : List S61} {k : Nat} (h : k < t.length) : rd_T61 t (k : Int) = t[k] := by
 unfold rd_T61
 rw [Int.toNat_natCast, List.getD_eq_getElem?_getD, List.getElem?_eq_getElem h]
 rfl
theorem itemsK_set {its : List S67} {t : List S61} {k : Nat} (h : k < t.length) {x : Int} (hx : itemN its (rd_T61 t (k : Int)) = x) : (itemsK its t k).set k x = itemsK its t (k + 1) := by
 unfold itemsK
 have hl : ((itemsV its t).take k).length = k := by simp [itemsV]; omega
 rw [List.set_append_right _ _ (by omega), hl, Nat.sub_self, List.take_succ_eq_append_getElem (by simp [itemsV]; exact h), List.append_assoc]
 congr 1
 have h2 : t.length - k = (t.length - (k + 1)) + 1 := by omega
 rw [h2, List.replicate_succ, List.set_cons_zero]
 congr 1
 rw [← hx, rdT61_lt h]
 simp [itemsV]
theorem itemsK_same {its : List S67} {t : List S61} {k : Nat} (h : k < t.length) (hx : itemN its (rd_T61 t (k : Int)) = 0) : itemsK its t k = itemsK its t (k + 1) := by
 rw [← itemsK_set h hx]
 unfold itemsK
 have hl : ((itemsV its t).take k).length = k := by simp [itemsV]; omega
 rw [List.set_append_right _ _ (by omega), hl, Nat.sub_self]
 congr 1
 have h2 : t.length - k = (t.length - (k + 1)) + 1 := by omega
 rw [h2, List.replicate_succ, List.set_cons_zero]
theorem rnbV_bad {its : List S67} {t : List S61} {k : Nat} (h : k < t.length) (hb : nodeR its t (rd_T61 t (k : Int)) = false) : rnbV its t = false := by
 rw [rdT61_lt h] at hb
 unfold rnbV
 rw [Bool.and_eq_false_iff]
 refine .inr ?_
 rw [Bool.eq_false_iff]
 intro ha
 have := List.all_eq_true.1 ha _ (List.getElem_mem h)
 rw [hb] at this
 cases this
theorem rnbV_good {its : List S67} {t : List S61} (ht : treeV t = true) (h : ∀ j, j < t.length → nodeR its t (rd_T61 t (j : Int)) = true) : rnbV its t = true := by
 unfold rnbV
 rw [ht, Bool.true_and, List.all_eq_true]
 intro x hx
 obtain ⟨j, hj, rfl⟩ := List.getElem_of_mem hx
 rw [← rdT61_lt hj]
 exact h j hj
theorem rnbV_tree {its : List S67} {t : List S61} (h : rnbV its t = true) : treeV t = true := by
 unfold rnbV at h
 exact (Bool.and_eq_true_iff.1 h).1
end Go.Proofs.YtbhpjpeknooppaaDoor.M
namespace Go.Proofs.YtbhpjpeknooppaaDoor.M
open Go.RowKit Go.Proofs.YtbhpjpeknooppaaDoorW.PrintWords Go.Proofs.YtbhpjpeknooppaaDoorW.PrintLast Go.Proofs.YtbhpjpeknooppaaDoorW.PrintMore
open Go.Proofs.YtbhpjpeknooppaaDoor.PCodeSpares
set_option linter.unusedVariables false
set_option linter.unusedSimpArgs false
def QReads (w : World) (Q0 : Option Addr) (c0 : Nat) (its : List S67) (q1 q2 : Int) (Q3 : Option Addr) (c3 : Nat) (wh : List S61) (q4 : Int) (q5 : ByteArray) (Q6 : Option Addr) (c6 : Nat) (ret : List (List S61)) : Prop := Kd.C k67 w Q0 its.length its ∧ its.length ≤ c0 ∧ Kd.C k61 w Q3 wh.length wh ∧ wh.length ≤ c3 ∧ Kd.C (Kd.slice 61 k61) w Q6 ret.length ret ∧ ret.length ≤ c6 ∧ its.length ≤ 4398046511104
theorem QReads.below {w w1 : World} {Q0 : Option Addr} {c0 : Nat} {its : List S67} {q1 q2 : Int} {Q3 : Option Addr} {c3 : Nat} {wh : List S61} {q4 : Int} {q5 : ByteArray} {Q6 : Option Addr} {c6 : Nat} {ret : List (List S61)} (h : QReads w Q0 c0 its q1 q2 Q3 c3 wh q4 q5 Q6 c6 ret) (hb : Below w.heap.size w w1) : QReads w1 Q0 c0 its q1 q2 Q3 c3 wh q4 q5 Q6 c6 ret :=
 ⟨Kd.C_below h.1 hb, h.2.1, Kd.C_below h.2.2.1 hb, h.2.2.2.1, Kd.C_below h.2.2.2.2.1 hb, h.2.2.2.2.2.1, h.2.2.2.2.2.2⟩
theorem item_is (Q0 : Option Addr) (c0 : Nat) (its : List S67) (q1 q2 : Int) (Q3 : Option Addr) (c3 : Nat) (wh : List S61) (q4 : Int) (q5 : ByteArray) (Q6 : Option Addr) (c6 : Nat) (ret : List (List S61)) (v : ByteArray) (i : Int) (b : Bool) (w : World) (hq : QReads w Q0 c0 its q1 q2 Q3 c3 wh q4 q5 Q6 c6 ret) (h : itemV its v = (i, b)) :
  Calls Tryd.prog 28 #[.agg #[.slice Q0 its.length c0, .int .i64 q1, .int .i64 q2, .slice Q3 wh.length c3, .int .i64 q4, .string q5, .slice Q6 ret.length c6], .string v] w fun e w' => e = .returned (.tuple #[.int .i64 i, .bool b]) ∧ Below w.heap.size w w' := by
 obtain ⟨h0, h1, h2, h3, h4, h5, h6⟩ := hq
 exact code_itemOf.calls (its.length + 1) Q0 c0 its q1 q2 Q3 c3 wh q4 q5 Q6 c6 ret v i b w h0 h1 h2 h3 h4 h5 (by rw [itemV_f _ _ _ _ _ _ _ _ (by omega), h])
theorem truth_is (o : Int) (b : Bool) (w : World) (h : truthO o = b) : Calls Tryd.prog 29 #[.int .i64 o] w fun e w' => e = .returned (.bool b) ∧ Below w.heap.size w w' :=
 (code_truth.calls o b w (by rw [truthO_f, h])).mono fun e w' h => ⟨h.1, by obtain ⟨n, hn⟩ := h.2.out; rw [hn]; exact pw_below_drewN (Below.refl _ _) n⟩
theorem tree_is (A : Option Addr) (c : Nat) (t : List S61) (b : Bool) (w : World) (G : GlobK w) (ht : Kd.C k61 w A t.length t) (hsz : t.length ≤ 4398046511104) (h : treeV t = b) :
  Calls Tryd.prog 27 #[.slice A t.length c] w fun e w' => e = .returned (.bool b) ∧ Below w.heap.size w w' :=
 (show_Tree A c t w G ht hsz).mono fun e w' h' => by rw [h] at h'; exact h'
theorem nodeR_attr {its : List S67} {t : List S61} {n : S61} {i : Int} {b : Bool} (h4 : 4 ≤ n.f0) (h11 : n.f0 ≤ 11) (h : itemV its n.f2 = (i, b)) : nodeR its t n = b ∧ itemN its n = i := by
 unfold nodeR itemN
 rw [if_pos ⟨h4, h11⟩, if_pos ⟨h4, h11⟩, h]
 exact ⟨rfl, rfl⟩
theorem nodeR_leaf {its : List S67} {t : List S61} {n : S61} (h4 : n.f0 < 4) : nodeR its t n = true ∧ itemN its n = 0 := by
 unfold nodeR itemN
 rw [if_neg (by omega), if_neg (by omega), if_neg (by omega)]
 exact ⟨rfl, rfl⟩
theorem itemN_op {its : List S67} {n : S61} (h4 : 12 ≤ n.f0) : itemN its n = 0 := by
 unfold itemN
 rw [if_neg (by omega)]
theorem nodeR_badA {its : List S67} {t : List S61} {n : S61} {b : Bool} (h4 : 12 ≤ n.f0) (hw : wantO n.f0 = b) (h : truthO (rd_T61 t n.f4).f0 = !b) : nodeR its t n = false := by
 unfold nodeR
 rw [if_neg (by omega), if_pos h4, hw, h]
 cases b <;> rfl
theorem nodeR_badB {its : List S67} {t : List S61} {n : S61} {b : Bool} (h4 : 12 ≤ n.f0) (hw : wantO n.f0 = b) (h : truthO (rd_T61 t n.f4).f0 = b) (h5 : 0 ≤ n.f5) (h' : truthO (rd_T61 t n.f5).f0 = !b) : nodeR its t n = false := by
 unfold nodeR
 rw [if_neg (by omega), if_pos h4, hw, h, h', decide_eq_true h5]
 cases b <;> rfl
theorem nodeR_okA {its : List S67} {t : List S61} {n : S61} {b : Bool} (h4 : 12 ≤ n.f0) (hw : wantO n.f0 = b) (h : truthO (rd_T61 t n.f4).f0 = b) (h5 : n.f5 < 0) : nodeR its t n = true := by
 unfold nodeR
 rw [if_neg (by omega), if_pos h4, hw, h, decide_eq_false (by omega)]
 cases b <;> rfl
theorem nodeR_okB {its : List S67} {t : List S61} {n : S61} {b : Bool} (h4 : 12 ≤ n.f0) (hw : wantO n.f0 = b) (h : truthO (rd_T61 t n.f4).f0 = b) (h5 : 0 ≤ n.f5) (h' : truthO (rd_T61 t n.f5).f0 = b) : nodeR its t n = true := by
 unfold nodeR
 rw [if_neg (by omega), if_pos h4, hw, h, h', decide_eq_true h5]
 cases b <;> rfl
def RnbPost (its : List S67) (t : List S61) (w : World) (e : Ending) (w' : World) : Prop :=
 ∃ v xs, e = .returned (.tuple #[v, .bool (rnbV its t)]) ∧ (Kd.int .i64).R 3 w' w.heap.size (fun _ => True) v xs ∧ (rnbV its t = true → xs = itemsV its t) ∧ Below w.heap.size w w'
theorem rnb_bad {its : List S67} {t : List S61} {w w' : World} {e : Ending} (h : rnbV its t = false) (he : e = .returned (.tuple #[.slice none 0 0, .bool false])) (hb : Below w.heap.size w w') : RnbPost its t w e w' :=
 ⟨.slice none 0 0, [], by rw [h]; exact he, Kd.R_nil _ _ _ _ _, (fun h' => by rw [h] at h'; cases h'), hb⟩
theorem rnb_good {its : List S67} {t : List S61} {w w' : World} {e : Ending} {v : Value} (h : rnbV its t = true) (he : e = .returned (.tuple #[v, .bool true])) (hr : (Kd.int .i64).R 3 w' w.heap.size (fun _ => True) v (itemsV its t)) (hb : Below w.heap.size w w') : RnbPost its t w e w' :=
 ⟨v, itemsV its t, by rw [h]; exact he, hr, fun _ => rfl, hb⟩
theorem int_row_at {W : World} {base e : Nat} {ok : Nat → Prop} {gs n cap : Nat} {xs : List Int} (h : (Kd.int .i64).R e W base ok (.slice (some ⟨gs, 0, none⟩) n cap) xs) (i : Nat) (hi : i < n) : ∀ j u, ([.int .i64 (xs.getD i 0)] : List Value)[j]? = some u → W.cell? ⟨gs, i + j, none⟩ = some u := by
 intro j u hu
 match j, hu with
 | 0, hu => cases hu; exact (int_at h i hi).1
 | j + 1, hu => simp at hu
def RnbRel (w : World) (its : List S67) (t : List S61) (gi ci g2 : Nat) (qc : Array Value) (v4 i : Value) (w' : World) : Prop :=
 ∃ (k : Nat), i = .int .i64 k ∧ v4 = (.slice (some ⟨gi, 0, none⟩) t.length ci) ∧ k ≤ t.length ∧ Aside0 (∀ j, j < k → nodeR its t (rd_T61 t (j : Int)) = true) ∧ Aside0 ((Kd.int .i64).R 3 w' w.heap.size (fun q_ => q_ ≠ g2) (.slice (some ⟨gi, 0, none⟩) t.length ci) (itemsK its t k)) ∧ Aside0 (Below w.heap.size w w') ∧ Aside0 (w'.heap[g2]? = some (.cells qc 31 (0, 0)))
set_option maxHeartbeats 8000000 in
set_option maxRecDepth 100000 in
theorem code_runnable (Q0 : Option Addr) (c0 : Nat) (its : List S67) (q1 q2 : Int) (Q3 : Option Addr) (c3 : Nat) (wh : List S61) (q4 : Int) (q5 : ByteArray) (Q6 : Option Addr) (c6 : Nat) (ret : List (List S61)) (A : Option Addr) (c : Nat) (t : List S61) (w : World) (G : GlobK w) (hq : QReads w Q0 c0 its q1 q2 Q3 c3 wh q4 q5 Q6 c6 ret) (ht : Kd.C k61 w A t.length t) (hsz : t.length ≤ 4398046511104) :
  Calls Tryd.prog 18 #[.agg #[.slice Q0 its.length c0, .int .i64 q1, .int .i64 q2, .slice Q3 wh.length c3, .int .i64 q4, .string q5, .slice Q6 ret.length c6], .slice A t.length c] w (RnbPost its t w) := by
 have HG := am G
 have HQ := am hq
 have HP := am ht
 have HB := am (Below.refl w.heap.size w)
 have HS := am hsz
 clear G hq ht hsz
 cases htv : treeV t
 ·have HT := am htv
  clear htv
  have HE := am (show rnbV its t = false from by unfold rnbV; rw [HT.out]; rfl)
  go_enter Tryd.func18, Tryd.ntmps18
  go_wp2_with (first | ((with_reducible refine gate_dst (N := 2) rfl ?_); refine box_event ?hg (N := 2) ?hd (cs := #[.slice Q0 its.length c0, .int .i64 q1, .int .i64 q2, .slice Q3 wh.length c3, .int .i64 q4, .string q5, .slice Q6 ret.length c6]) (t := 31) ?hr ?_; (case hd => rfl); (case hg => rfl); (case hr => first | (go_simp; done) | (go_simp; rfl)); intro g2 hg_ W1 hbox hb; have GE_g2 := ge1 hg_ HB; replace HB := bs HB hb; have BK_g2 := am hbox; have c_g2 := cf7 BK_g2; clear hb hbox hg_) | (go_at_call 27; refine (tree_is A c t false _ (HG.out.below HB.out) (Kd.C_below HP.out HB.out) HS.out HT.out).mono ?_; rintro e W2 ⟨rfl, hb⟩; replace HB := bs HB hb; (try clear c_g2); replace BK_g2 := bb BK_g2 hb; have c_g2 := cf7 BK_g2; clear hb))
  refine bodyPost_ret (v := .tuple #[.slice none 0 0, .bool false]) (by simp [results, Tryd.results18, go_sem, *]) rfl (rnb_bad HE.out rfl HB.out)
 have HT := am htv
 clear htv
 go_enter Tryd.func18, Tryd.ntmps18
 go_wp2_with (first | ((with_reducible refine gate_dst (N := 2) rfl ?_); refine box_event ?hg (N := 2) ?hd (cs := #[.slice Q0 its.length c0, .int .i64 q1, .int .i64 q2, .slice Q3 wh.length c3, .int .i64 q4, .string q5, .slice Q6 ret.length c6]) (t := 31) ?hr ?_; (case hd => rfl); (case hg => rfl); (case hr => first | (go_simp; done) | (go_simp; rfl)); intro g2 hg_ W1 hbox hb; have GE_g2 := ge1 hg_ HB; replace HB := bs HB hb; have BK_g2 := am hbox; have c_g2 := cf7 BK_g2; clear hb hbox hg_) | (go_at_call 27; refine (tree_is A c t true _ (HG.out.below HB.out) (Kd.C_below HP.out HB.out) HS.out HT.out).mono ?_; rintro e W2 ⟨rfl, hb⟩; replace HB := bs HB hb; (try clear c_g2); replace BK_g2 := bb BK_g2 hb; have c_g2 := cf7 BK_g2; clear hb) | ((with_reducible refine gate_dst (N := 14) rfl ?_); refine Kd.R_make (Kd.int .i64) (w0 := w) w.heap.size 3 rfl rfl 48 _ _ rfl (t.length : Int) rfl rfl Tryd.underlying48 (.int .i64 0) 8 info3 rfl (by decide) (by decide) 0 (ok := fun q_ => q_ ≠ g2) (okp := fun _ => False) rfl (fun _ h_ => h_.elim) ?mf (by omega) ?ml HB.out (below_size HB.out) ?_; (case mf => intro e_; have := blk_lt BK_g2.out; omega); (case ml => rw [Int.toNat_natCast]; have := HS.out; omega); intro v1 W3 ho hb hg hat_; rw [Int.toNat_natCast] at ho; have HO := am ho; have HBn := am hb; clear ho hb hat_; replace HB := am (HBn.out); (try clear c_g2); replace BK_g2 := am (blk_grown BK_g2.out hg (by simp)); have c_g2 := cf7 BK_g2; clear hg HBn))
 clear c_g2
 have hpos := treeV_pos HT.out
 obtain ⟨gi, ci, hv1, _⟩ := Kd.R_form HO.out (by rw [List.length_replicate]; exact hpos)
 clear hpos
 rw [List.length_replicate] at hv1
 subst hv1
 go_loopw [4, 17] (fun v4 i w' => RnbRel w its t gi ci g2 #[.slice Q0 its.length c0, .int .i64 q1, .int .i64 q2, .slice Q3 wh.length c3, .int .i64 q4, .string q5, .slice Q6 ret.length c6] v4 i w') (fun _ i _ => t.length - (intOf i).toNat)
 case atStart => exact ⟨0, rfl, rfl, Nat.zero_le _, ⟨fun j hj => absurd hj (Nat.not_lt_zero j)⟩, ⟨by rw [itemsK_zero]; exact HO.out⟩, HB, BK_g2⟩
 case round =>
  clear HB BK_g2 HO
  obtain ⟨k, rfl, rfl, hk, HN, HO, HB, BK_g2⟩ := hrel
  have HK := am hk
  clear hk
  have c_g2 := cf7 BK_g2
  by_cases hlt : k < t.length
  ·obtain ⟨ad, rfl, b0, b1, b2, b3, b4, b5⟩ := at_T61 HP.out (k : Int) (by omega) (by omega)
   rw [Int.toNat_natCast] at b0 b1 b2 b3 b4 b5
   obtain ⟨ins, hins⟩ : ∃ i, i = rd_T61 t (k : Int) := ⟨_, rfl⟩
   have hok := treeV_ok HT.out k hlt
   rw [← hins] at b0 b1 b2 b3 b4 b5 hok
   have HI := am hins
   clear hins
   obtain ⟨a0, a1, a2, a3, a4, a5⟩ := ins
   obtain ⟨⟨hp1, hp26⟩, hpA, hpB, hpN⟩ := hok
   have hp1 : 1 ≤ a0 := hp1
   have hp26 : a0 ≤ 26 := hp26
   have hpA : 12 ≤ a0 → 0 ≤ a4 ∧ a4 < k := hpA
   have hpB : 14 ≤ a0 → 0 ≤ a5 ∧ a5 < k := hpB
   have hpN : a0 ≤ 13 → a5 = -1 := hpN
   have HpA := am hpA
   have HpB := am hpB
   have HpN := am hpN
   clear hpA hpB hpN
   have p0 := pw_cell_below HB.out b0
   have p1 := pw_cell_below HB.out b1
   have p2 := pw_cell_below HB.out b2
   have p3 := pw_cell_below HB.out b3
   have p4 := pw_cell_below HB.out b4
   have p5 := pw_cell_below HB.out b5
   clear b0 b1 b2 b3 b4 b5
   have eK : wrap64 ((k : Int) + 1) = (k : Int) + 1 := IntWalk.wrap64_in _ (by have := HS.out; omega)
   by_cases h4 : a0 < 4
   ·have e4 : decide (4 ≤ a0) = false := by simp; omega
    have e12 : decide (12 ≤ a0) = false := by simp; omega
    have HY := am (nodeR_leaf (its := its) (t := t) (n := ⟨a0, a1, a2, a3, a4, a5⟩) h4).1
    have HZ := am (show itemN its (rd_T61 t (k : Int)) = 0 from by rw [← HI.out]; exact (nodeR_leaf (its := its) (t := t) (n := ⟨a0, a1, a2, a3, a4, a5⟩) h4).2)
    clear hp1 hp26
    go_wp2_with (first | ((with_reducible refine gate_dst (N := 7) rfl ?_); refine box_event ?hg (N := 7) ?hd (cs := #[.int .i64 0, .int .i64 0, .string ByteArray.empty, .string ByteArray.empty, .int .i64 0, .int .i64 0]) (t := 61) ?hr ?_; (case hd => rfl); (case hg => rfl); (case hr => first | (go_simp; done) | (go_simp; rfl)); intro g7 hg_ W1 hbox hb; have GE_g7 := ge1 hg_ HB; have NE_g7_g2 := ne1 hg_ BK_g2; have NE_g2_g7 := ne2 NE_g7_g2; replace HB := bs HB hb; (try clear c_g2); replace BK_g2 := bb BK_g2 hb; have c_g2 := cf7 BK_g2; replace HO := bR HO hb; have BK_g7 := am hbox; have c_g7 := cf6 BK_g7; clear hb hbox hg_) | ((with_reducible refine gate_store (t := 61) (p := 7) rfl ?_); refine store_event (t := 61) (p := 7) (v := ?vo_W2_1) (w1 := ?w1_W2_2) ?hg ?ho ?hn ?hr ?_; (case ho => rfl); (case hg => rfl); (case hn => rfl); (case hr => first | (go_simp; done) | (go_simp; rfl)); intro W2 hw; have hk := kb6 hw; replace HO := am (Kd.R_mono (Kd.R_keep (Kd.R_types HO.out BK_g7.out (by decide)) hk (fun _ h_ => h_.2)) (fun _ h_ => h_.1)); replace HB := sb6 HB GE_g7 hw; (try clear c_g2); replace BK_g2 := bk BK_g2 hk NE_g2_g7; have c_g2 := cf7 BK_g2; (try clear c_g7); replace BK_g7 := bp6 BK_g7 hw; have c_g7 := cf6 BK_g7; clear hk hw))
    go_roundw
    case rel =>
     have HN1 : Aside0 (∀ j, j < k + 1 → nodeR its t (rd_T61 t (j : Int)) = true) := ⟨fun j hj => by
      by_cases h : j < k
      ·exact HN.out j h
      obtain rfl : j = k := by omega
      rw [← HI.out]; exact HY.out⟩
     first
     | exact ⟨k + 1, by first | rfl | (rw [eK]; rfl), rfl, hlt, HN1, ⟨by rw [← itemsK_same hlt HZ.out]; exact HO.out⟩, HB, BK_g2⟩
     | (refine ⟨_, _, _, _, _, _, ?_, rfl, rfl, rfl, rfl, rfl, rfl⟩; exact ⟨k + 1, rfl, rfl, hlt, HN1, ⟨by rw [← itemsK_same hlt HZ.out]; exact HO.out⟩, HB, BK_g2⟩)
    case measure => first | exact mu2_ hlt (Int.lt_succ _) | exact mu2_ hlt (by rw [eK]; exact Int.lt_succ _)
   have e4 : decide (4 ≤ a0) = true := by simp; omega
   by_cases n11 : a0 ≤ 11
   ·have e11 : decide (a0 ≤ 11) = true := by simp; omega
    have n4 : 4 ≤ a0 := by omega
    clear h4
    obtain ⟨⟨i_, b_⟩, hiv0⟩ : ∃ p, itemV its a2 = p := ⟨_, rfl⟩
    have hiv := am hiv0
    clear hiv0
    cases b_
    ·have HY := am (nodeR_attr (its := its) (t := t) (n := ⟨a0, a1, a2, a3, a4, a5⟩) n4 n11 hiv.out).1
     have HZ := am (show itemN its (rd_T61 t (k : Int)) = i_ from by rw [← HI.out]; exact (nodeR_attr (its := its) (t := t) (n := ⟨a0, a1, a2, a3, a4, a5⟩) n4 n11 hiv.out).2)
     have HE := am (rnbV_bad hlt (its := its) (by rw [← HI.out]; exact HY.out))
     clear hp1 hp26
     go_wp2_with (first | ((with_reducible refine gate_dst (N := 7) rfl ?_); refine box_event ?hg (N := 7) ?hd (cs := #[.int .i64 0, .int .i64 0, .string ByteArray.empty, .string ByteArray.empty, .int .i64 0, .int .i64 0]) (t := 61) ?hr ?_; (case hd => rfl); (case hg => rfl); (case hr => first | (go_simp; done) | (go_simp; rfl)); intro g7 hg_ W1 hbox hb; have GE_g7 := ge1 hg_ HB; have NE_g7_g2 := ne1 hg_ BK_g2; have NE_g2_g7 := ne2 NE_g7_g2; replace HB := bs HB hb; (try clear c_g2); replace BK_g2 := bb BK_g2 hb; have c_g2 := cf7 BK_g2; replace HO := bR HO hb; have BK_g7 := am hbox; have c_g7 := cf6 BK_g7; clear hb hbox hg_) | ((with_reducible refine gate_store (t := 61) (p := 7) rfl ?_); refine store_event (t := 61) (p := 7) (v := ?vo_W2_3) (w1 := ?w1_W2_4) ?hg ?ho ?hn ?hr ?_; (case ho => rfl); (case hg => rfl); (case hn => rfl); (case hr => first | (go_simp; done) | (go_simp; rfl)); intro W2 hw; have hk := kb6 hw; replace HO := am (Kd.R_mono (Kd.R_keep (Kd.R_types HO.out BK_g7.out (by decide)) hk (fun _ h_ => h_.2)) (fun _ h_ => h_.1)); replace HB := sb6 HB GE_g7 hw; (try clear c_g2); replace BK_g2 := bk BK_g2 hk NE_g2_g7; have c_g2 := cf7 BK_g2; (try clear c_g7); replace BK_g7 := bp6 BK_g7 hw; have c_g7 := cf6 BK_g7; clear hk hw) | (go_at_call 28; refine (item_is Q0 c0 its q1 q2 Q3 c3 wh q4 q5 Q6 c6 ret a2 i_ false _ (HQ.out.below HB.out) hiv.out).mono ?_; rintro e W3 ⟨rfl, hb⟩; replace HB := bs HB hb; (try clear c_g2); replace BK_g2 := bb BK_g2 hb; have c_g2 := cf7 BK_g2; (try clear c_g7); replace BK_g7 := bb BK_g7 hb; have c_g7 := cf6 BK_g7; replace HO := bR HO hb; clear hb) | ((with_reducible refine gate_store (t := 3) (p := 40) rfl ?_); refine Kd.R_store (Kd.int .i64) (w0 := w) w.heap.size rfl rfl 3 _ _ rfl 3 (o' := k) ((k : Nat) : Int) 0 (itemsK its t k) i_ (.int .i64 i_) [.int .i64 i_] [.int .i64 ((itemsK its t k).getD k 0)] (fun q_ => q_ ≠ g2) (fun _ => False) ?sa ?so rfl rfl ?st ?s1 HO.out ?s0 ?si rfl ?sc ?sj ?sm (fun _ h_ => h_.elim) HB.out ?_; (case sa => rfl); (case so => rw [Int.toNat_natCast]; show k = k * 1 + 0; omega); (case st => kernel_rfl); (case s1 => intro q_ hq_; simp at hq_; rcases hq_ with rfl; rfl); (case s0 => omega); (case si => omega); (case sc => rw [Int.toNat_natCast]; intro j u hu; rw [show k * (Kd.int .i64).sz + j = k + j from by show k * 1 + j = k + j; omega]; exact int_row_at HO.out k hlt j u hu); (case sj => exact Nat.le_refl _); (case sm => exact rfl); intro W4 ho hb hg; rw [Int.toNat_natCast] at ho; have HOq := HO; clear HO; have HO := am ho; have HBn := am hb; clear ho hb; replace HB := am (HBn.out); (try clear c_g2); replace BK_g2 := am (blk_grown BK_g2.out hg (Kd.R_away HOq.out (fun _ h_ => h_))); have c_g2 := cf7 BK_g2; (try clear c_g7); replace BK_g7 := am (blk_grown BK_g7.out hg (Kd.R_ne HOq.out BK_g7.out (by decide))); have c_g7 := cf6 BK_g7; clear hg HBn HOq))
     refine bodyPost_ret (v := .tuple #[.slice none 0 0, .bool false]) (by simp [results, Tryd.results18, go_sem, *]) rfl (rnb_bad HE.out rfl HB.out)
    have HY := am (nodeR_attr (its := its) (t := t) (n := ⟨a0, a1, a2, a3, a4, a5⟩) n4 n11 hiv.out).1
    have HZ := am (show itemN its (rd_T61 t (k : Int)) = i_ from by rw [← HI.out]; exact (nodeR_attr (its := its) (t := t) (n := ⟨a0, a1, a2, a3, a4, a5⟩) n4 n11 hiv.out).2)
    clear hp1 hp26
    go_wp2_with (first | ((with_reducible refine gate_dst (N := 7) rfl ?_); refine box_event ?hg (N := 7) ?hd (cs := #[.int .i64 0, .int .i64 0, .string ByteArray.empty, .string ByteArray.empty, .int .i64 0, .int .i64 0]) (t := 61) ?hr ?_; (case hd => rfl); (case hg => rfl); (case hr => first | (go_simp; done) | (go_simp; rfl)); intro g7 hg_ W1 hbox hb; have GE_g7 := ge1 hg_ HB; have NE_g7_g2 := ne1 hg_ BK_g2; have NE_g2_g7 := ne2 NE_g7_g2; replace HB := bs HB hb; (try clear c_g2); replace BK_g2 := bb BK_g2 hb; have c_g2 := cf7 BK_g2; replace HO := bR HO hb; have BK_g7 := am hbox; have c_g7 := cf6 BK_g7; clear hb hbox hg_) | ((with_reducible refine gate_store (t := 61) (p := 7) rfl ?_); refine store_event (t := 61) (p := 7) (v := ?vo_W2_5) (w1 := ?w1_W2_6) ?hg ?ho ?hn ?hr ?_; (case ho => rfl); (case hg => rfl); (case hn => rfl); (case hr => first | (go_simp; done) | (go_simp; rfl)); intro W2 hw; have hk := kb6 hw; replace HO := am (Kd.R_mono (Kd.R_keep (Kd.R_types HO.out BK_g7.out (by decide)) hk (fun _ h_ => h_.2)) (fun _ h_ => h_.1)); replace HB := sb6 HB GE_g7 hw; (try clear c_g2); replace BK_g2 := bk BK_g2 hk NE_g2_g7; have c_g2 := cf7 BK_g2; (try clear c_g7); replace BK_g7 := bp6 BK_g7 hw; have c_g7 := cf6 BK_g7; clear hk hw) | (go_at_call 28; refine (item_is Q0 c0 its q1 q2 Q3 c3 wh q4 q5 Q6 c6 ret a2 i_ true _ (HQ.out.below HB.out) hiv.out).mono ?_; rintro e W3 ⟨rfl, hb⟩; replace HB := bs HB hb; (try clear c_g2); replace BK_g2 := bb BK_g2 hb; have c_g2 := cf7 BK_g2; (try clear c_g7); replace BK_g7 := bb BK_g7 hb; have c_g7 := cf6 BK_g7; replace HO := bR HO hb; clear hb) | ((with_reducible refine gate_store (t := 3) (p := 40) rfl ?_); refine Kd.R_store (Kd.int .i64) (w0 := w) w.heap.size rfl rfl 3 _ _ rfl 3 (o' := k) ((k : Nat) : Int) 0 (itemsK its t k) i_ (.int .i64 i_) [.int .i64 i_] [.int .i64 ((itemsK its t k).getD k 0)] (fun q_ => q_ ≠ g2) (fun _ => False) ?sa ?so rfl rfl ?st ?s1 HO.out ?s0 ?si rfl ?sc ?sj ?sm (fun _ h_ => h_.elim) HB.out ?_; (case sa => rfl); (case so => rw [Int.toNat_natCast]; show k = k * 1 + 0; omega); (case st => kernel_rfl); (case s1 => intro q_ hq_; simp at hq_; rcases hq_ with rfl; rfl); (case s0 => omega); (case si => omega); (case sc => rw [Int.toNat_natCast]; intro j u hu; rw [show k * (Kd.int .i64).sz + j = k + j from by show k * 1 + j = k + j; omega]; exact int_row_at HO.out k hlt j u hu); (case sj => exact Nat.le_refl _); (case sm => exact rfl); intro W4 ho hb hg; rw [Int.toNat_natCast] at ho; have HOq := HO; clear HO; have HO := am ho; have HBn := am hb; clear ho hb; replace HB := am (HBn.out); (try clear c_g2); replace BK_g2 := am (blk_grown BK_g2.out hg (Kd.R_away HOq.out (fun _ h_ => h_))); have c_g2 := cf7 BK_g2; (try clear c_g7); replace BK_g7 := am (blk_grown BK_g7.out hg (Kd.R_ne HOq.out BK_g7.out (by decide))); have c_g7 := cf6 BK_g7; clear hg HBn HOq))
    go_roundw
    case rel =>
     have HN1 : Aside0 (∀ j, j < k + 1 → nodeR its t (rd_T61 t (j : Int)) = true) := ⟨fun j hj => by
      by_cases h : j < k
      ·exact HN.out j h
      obtain rfl : j = k := by omega
      rw [← HI.out]; exact HY.out⟩
     first
     | exact ⟨k + 1, by first | rfl | (rw [eK]; rfl), rfl, hlt, HN1, ⟨by rw [← itemsK_set hlt HZ.out]; exact HO.out⟩, HB, BK_g2⟩
     | (refine ⟨_, _, _, _, _, _, ?_, rfl, rfl, rfl, rfl, rfl, rfl⟩; exact ⟨k + 1, rfl, rfl, hlt, HN1, ⟨by rw [← itemsK_set hlt HZ.out]; exact HO.out⟩, HB, BK_g2⟩)
    case measure => first | exact mu2_ hlt (Int.lt_succ _) | exact mu2_ hlt (by rw [eK]; exact Int.lt_succ _)
   have e11 : decide (a0 ≤ 11) = false := by simp; omega
   have n12 : 12 ≤ a0 := by omega
   have e12 : decide (12 ≤ a0) = true := by simp; omega
   clear h4 n11
   have HZ := am (show itemN its (rd_T61 t (k : Int)) = 0 from by rw [← HI.out]; exact itemN_op n12)
   obtain ⟨nA0, nAk⟩ := HpA.out n12
   obtain ⟨ad_, e_, bA, _⟩ := at_T61 HP.out a4 nA0 (by omega)
   obtain rfl := Option.some.inj e_
   clear e_
   obtain ⟨x, hx⟩ : ∃ x, x = (rd_T61 t a4).f0 := ⟨_, rfl⟩
   rw [← hx] at bA
   have HX := am hx
   clear hx
   have PA := am bA
   have pA := pw_cell_below HB.out bA
   clear bA
   have nAl : a4 < (t.length : Int) := by omega
   by_cases h13 : a0 = 13
   ·have e13 : (a0 == 13) = true := by simp; omega
    have HW := am (show wantO a0 = true from by subst h13; rfl)
    have nB : a5 = -1 := HpN.out (by omega)
    have eB : decide (0 ≤ a5) = false := by simp; omega
    have nBB : a5 < 0 := by omega
    clear nB
    clear h13
    cases hta0 : truthO x
    ·have hta := am hta0
     clear hta0
     have HE := am (rnbV_bad hlt (its := its) (by rw [← HI.out]; exact nodeR_badA n12 HW.out (by rw [← HX.out]; exact hta.out)))
     clear hp1 hp26
     go_wp2_with (first | ((with_reducible refine gate_dst (N := 7) rfl ?_); refine box_event ?hg (N := 7) ?hd (cs := #[.int .i64 0, .int .i64 0, .string ByteArray.empty, .string ByteArray.empty, .int .i64 0, .int .i64 0]) (t := 61) ?hr ?_; (case hd => rfl); (case hg => rfl); (case hr => first | (go_simp; done) | (go_simp; rfl)); intro g7 hg_ W1 hbox hb; have GE_g7 := ge1 hg_ HB; have NE_g7_g2 := ne1 hg_ BK_g2; have NE_g2_g7 := ne2 NE_g7_g2; replace HB := bs HB hb; (try clear c_g2); replace BK_g2 := bb BK_g2 hb; have c_g2 := cf7 BK_g2; replace HO := bR HO hb; have BK_g7 := am hbox; have c_g7 := cf6 BK_g7; clear hb hbox hg_; (try clear pA); have pA := pw_cell_below HB.out PA.out) | ((with_reducible refine gate_store (t := 61) (p := 7) rfl ?_); refine store_event (t := 61) (p := 7) (v := ?vo_W2_7) (w1 := ?w1_W2_8) ?hg ?ho ?hn ?hr ?_; (case ho => rfl); (case hg => rfl); (case hn => rfl); (case hr => first | (go_simp; done) | (go_simp; rfl)); intro W2 hw; have hk := kb6 hw; replace HO := am (Kd.R_mono (Kd.R_keep (Kd.R_types HO.out BK_g7.out (by decide)) hk (fun _ h_ => h_.2)) (fun _ h_ => h_.1)); replace HB := sb6 HB GE_g7 hw; (try clear c_g2); replace BK_g2 := bk BK_g2 hk NE_g2_g7; have c_g2 := cf7 BK_g2; (try clear c_g7); replace BK_g7 := bp6 BK_g7 hw; have c_g7 := cf6 BK_g7; clear hk hw; (try clear pA); have pA := pw_cell_below HB.out PA.out) | (go_at_call 29; refine (truth_is x false _ hta.out).mono ?_; rintro e W3 ⟨rfl, hb⟩; replace HB := bs HB hb; (try clear c_g2); replace BK_g2 := bb BK_g2 hb; have c_g2 := cf7 BK_g2; (try clear c_g7); replace BK_g7 := bb BK_g7 hb; have c_g7 := cf6 BK_g7; replace HO := bR HO hb; clear hb; (try clear pA); have pA := pw_cell_below HB.out PA.out))
     refine bodyPost_ret (v := .tuple #[.slice none 0 0, .bool false]) (by simp [results, Tryd.results18, go_sem, *]) rfl (rnb_bad HE.out rfl HB.out)
    have hta := am hta0
    clear hta0
    have HY := am (nodeR_okA (its := its) (t := t) (n := ⟨a0, a1, a2, a3, a4, a5⟩) n12 HW.out (by rw [← HX.out]; exact hta.out) nBB)
    clear hp1 hp26
    go_wp2_with (first | ((with_reducible refine gate_dst (N := 7) rfl ?_); refine box_event ?hg (N := 7) ?hd (cs := #[.int .i64 0, .int .i64 0, .string ByteArray.empty, .string ByteArray.empty, .int .i64 0, .int .i64 0]) (t := 61) ?hr ?_; (case hd => rfl); (case hg => rfl); (case hr => first | (go_simp; done) | (go_simp; rfl)); intro g7 hg_ W1 hbox hb; have GE_g7 := ge1 hg_ HB; have NE_g7_g2 := ne1 hg_ BK_g2; have NE_g2_g7 := ne2 NE_g7_g2; replace HB := bs HB hb; (try clear c_g2); replace BK_g2 := bb BK_g2 hb; have c_g2 := cf7 BK_g2; replace HO := bR HO hb; have BK_g7 := am hbox; have c_g7 := cf6 BK_g7; clear hb hbox hg_; (try clear pA); have pA := pw_cell_below HB.out PA.out) | ((with_reducible refine gate_store (t := 61) (p := 7) rfl ?_); refine store_event (t := 61) (p := 7) (v := ?vo_W2_9) (w1 := ?w1_W2_10) ?hg ?ho ?hn ?hr ?_; (case ho => rfl); (case hg => rfl); (case hn => rfl); (case hr => first | (go_simp; done) | (go_simp; rfl)); intro W2 hw; have hk := kb6 hw; replace HO := am (Kd.R_mono (Kd.R_keep (Kd.R_types HO.out BK_g7.out (by decide)) hk (fun _ h_ => h_.2)) (fun _ h_ => h_.1)); replace HB := sb6 HB GE_g7 hw; (try clear c_g2); replace BK_g2 := bk BK_g2 hk NE_g2_g7; have c_g2 := cf7 BK_g2; (try clear c_g7); replace BK_g7 := bp6 BK_g7 hw; have c_g7 := cf6 BK_g7; clear hk hw; (try clear pA); have pA := pw_cell_below HB.out PA.out) | (go_at_call 29; refine (truth_is x true _ hta.out).mono ?_; rintro e W3 ⟨rfl, hb⟩; replace HB := bs HB hb; (try clear c_g2); replace BK_g2 := bb BK_g2 hb; have c_g2 := cf7 BK_g2; (try clear c_g7); replace BK_g7 := bb BK_g7 hb; have c_g7 := cf6 BK_g7; replace HO := bR HO hb; clear hb; (try clear pA); have pA := pw_cell_below HB.out PA.out))
    go_roundw
    case rel =>
     have HN1 : Aside0 (∀ j, j < k + 1 → nodeR its t (rd_T61 t (j : Int)) = true) := ⟨fun j hj => by
      by_cases h : j < k
      ·exact HN.out j h
      obtain rfl : j = k := by omega
      rw [← HI.out]; exact HY.out⟩
     first
     | exact ⟨k + 1, by first | rfl | (rw [eK]; rfl), rfl, hlt, HN1, ⟨by rw [← itemsK_same hlt HZ.out]; exact HO.out⟩, HB, BK_g2⟩
     | (refine ⟨_, _, _, _, _, _, ?_, rfl, rfl, rfl, rfl, rfl, rfl⟩; exact ⟨k + 1, rfl, rfl, hlt, HN1, ⟨by rw [← itemsK_same hlt HZ.out]; exact HO.out⟩, HB, BK_g2⟩)
    case measure => first | exact mu2_ hlt (Int.lt_succ _) | exact mu2_ hlt (by rw [eK]; exact Int.lt_succ _)
   have e13 : (a0 == 13) = false := by simp; omega
   by_cases hl12 : a0 = 12
   ·have e25 : (a0 == 25) = false := by simp; omega
    have e26 : (a0 == 26) = false := by simp; omega
    have HW := am (show wantO a0 = false from by subst hl12; rfl)
    have nB : a5 = -1 := HpN.out (by omega)
    have eB : decide (0 ≤ a5) = false := by simp; omega
    have nBB : a5 < 0 := by omega
    clear nB
    clear hl12
    cases hta0 : truthO x
    ·have hta := am hta0
     clear hta0
     have HY := am (nodeR_okA (its := its) (t := t) (n := ⟨a0, a1, a2, a3, a4, a5⟩) n12 HW.out (by rw [← HX.out]; exact hta.out) nBB)
     clear hp1 hp26
     go_wp2_with (first | ((with_reducible refine gate_dst (N := 7) rfl ?_); refine box_event ?hg (N := 7) ?hd (cs := #[.int .i64 0, .int .i64 0, .string ByteArray.empty, .string ByteArray.empty, .int .i64 0, .int .i64 0]) (t := 61) ?hr ?_; (case hd => rfl); (case hg => rfl); (case hr => first | (go_simp; done) | (go_simp; rfl)); intro g7 hg_ W1 hbox hb; have GE_g7 := ge1 hg_ HB; have NE_g7_g2 := ne1 hg_ BK_g2; have NE_g2_g7 := ne2 NE_g7_g2; replace HB := bs HB hb; (try clear c_g2); replace BK_g2 := bb BK_g2 hb; have c_g2 := cf7 BK_g2; replace HO := bR HO hb; have BK_g7 := am hbox; have c_g7 := cf6 BK_g7; clear hb hbox hg_; (try clear pA); have pA := pw_cell_below HB.out PA.out) | ((with_reducible refine gate_store (t := 61) (p := 7) rfl ?_); refine store_event (t := 61) (p := 7) (v := ?vo_W2_11) (w1 := ?w1_W2_12) ?hg ?ho ?hn ?hr ?_; (case ho => rfl); (case hg => rfl); (case hn => rfl); (case hr => first | (go_simp; done) | (go_simp; rfl)); intro W2 hw; have hk := kb6 hw; replace HO := am (Kd.R_mono (Kd.R_keep (Kd.R_types HO.out BK_g7.out (by decide)) hk (fun _ h_ => h_.2)) (fun _ h_ => h_.1)); replace HB := sb6 HB GE_g7 hw; (try clear c_g2); replace BK_g2 := bk BK_g2 hk NE_g2_g7; have c_g2 := cf7 BK_g2; (try clear c_g7); replace BK_g7 := bp6 BK_g7 hw; have c_g7 := cf6 BK_g7; clear hk hw; (try clear pA); have pA := pw_cell_below HB.out PA.out) | (go_at_call 29; refine (truth_is x false _ hta.out).mono ?_; rintro e W3 ⟨rfl, hb⟩; replace HB := bs HB hb; (try clear c_g2); replace BK_g2 := bb BK_g2 hb; have c_g2 := cf7 BK_g2; (try clear c_g7); replace BK_g7 := bb BK_g7 hb; have c_g7 := cf6 BK_g7; replace HO := bR HO hb; clear hb; (try clear pA); have pA := pw_cell_below HB.out PA.out))
     go_roundw
     case rel =>
      have HN1 : Aside0 (∀ j, j < k + 1 → nodeR its t (rd_T61 t (j : Int)) = true) := ⟨fun j hj => by
       by_cases h : j < k
       ·exact HN.out j h
       obtain rfl : j = k := by omega
       rw [← HI.out]; exact HY.out⟩
      first
      | exact ⟨k + 1, by first | rfl | (rw [eK]; rfl), rfl, hlt, HN1, ⟨by rw [← itemsK_same hlt HZ.out]; exact HO.out⟩, HB, BK_g2⟩
      | (refine ⟨_, _, _, _, _, _, ?_, rfl, rfl, rfl, rfl, rfl, rfl⟩; exact ⟨k + 1, rfl, rfl, hlt, HN1, ⟨by rw [← itemsK_same hlt HZ.out]; exact HO.out⟩, HB, BK_g2⟩)
     case measure => first | exact mu2_ hlt (Int.lt_succ _) | exact mu2_ hlt (by rw [eK]; exact Int.lt_succ _)
    have hta := am hta0
    clear hta0
    have HE := am (rnbV_bad hlt (its := its) (by rw [← HI.out]; exact nodeR_badA n12 HW.out (by rw [← HX.out]; exact hta.out)))
    clear hp1 hp26
    go_wp2_with (first | ((with_reducible refine gate_dst (N := 7) rfl ?_); refine box_event ?hg (N := 7) ?hd (cs := #[.int .i64 0, .int .i64 0, .string ByteArray.empty, .string ByteArray.empty, .int .i64 0, .int .i64 0]) (t := 61) ?hr ?_; (case hd => rfl); (case hg => rfl); (case hr => first | (go_simp; done) | (go_simp; rfl)); intro g7 hg_ W1 hbox hb; have GE_g7 := ge1 hg_ HB; have NE_g7_g2 := ne1 hg_ BK_g2; have NE_g2_g7 := ne2 NE_g7_g2; replace HB := bs HB hb; (try clear c_g2); replace BK_g2 := bb BK_g2 hb; have c_g2 := cf7 BK_g2; replace HO := bR HO hb; have BK_g7 := am hbox; have c_g7 := cf6 BK_g7; clear hb hbox hg_; (try clear pA); have pA := pw_cell_below HB.out PA.out) | ((with_reducible refine gate_store (t := 61) (p := 7) rfl ?_); refine store_event (t := 61) (p := 7) (v := ?vo_W2_13) (w1 := ?w1_W2_14) ?hg ?ho ?hn ?hr ?_; (case ho => rfl); (case hg => rfl); (case hn => rfl); (case hr => first | (go_simp; done) | (go_simp; rfl)); intro W2 hw; have hk := kb6 hw; replace HO := am (Kd.R_mono (Kd.R_keep (Kd.R_types HO.out BK_g7.out (by decide)) hk (fun _ h_ => h_.2)) (fun _ h_ => h_.1)); replace HB := sb6 HB GE_g7 hw; (try clear c_g2); replace BK_g2 := bk BK_g2 hk NE_g2_g7; have c_g2 := cf7 BK_g2; (try clear c_g7); replace BK_g7 := bp6 BK_g7 hw; have c_g7 := cf6 BK_g7; clear hk hw; (try clear pA); have pA := pw_cell_below HB.out PA.out) | (go_at_call 29; refine (truth_is x true _ hta.out).mono ?_; rintro e W3 ⟨rfl, hb⟩; replace HB := bs HB hb; (try clear c_g2); replace BK_g2 := bb BK_g2 hb; have c_g2 := cf7 BK_g2; (try clear c_g7); replace BK_g7 := bb BK_g7 hb; have c_g7 := cf6 BK_g7; replace HO := bR HO hb; clear hb; (try clear pA); have pA := pw_cell_below HB.out PA.out))
    refine bodyPost_ret (v := .tuple #[.slice none 0 0, .bool false]) (by simp [results, Tryd.results18, go_sem, *]) rfl (rnb_bad HE.out rfl HB.out)
   have n14 : 14 ≤ a0 := by omega
   clear h13 hl12
   by_cases h25 : a0 = 25
   ·have e25 : (a0 == 25) = true := by simp; omega
    have n14 : 14 ≤ a0 := by omega
    have HW := am (show wantO a0 = true from by subst h25; rfl)
    clear h25
    cases hta0 : truthO x
    ·have hta := am hta0
     clear hta0
     have HE := am (rnbV_bad hlt (its := its) (by rw [← HI.out]; exact nodeR_badA n12 HW.out (by rw [← HX.out]; exact hta.out)))
     clear hp1 hp26
     go_wp2_with (first | ((with_reducible refine gate_dst (N := 7) rfl ?_); refine box_event ?hg (N := 7) ?hd (cs := #[.int .i64 0, .int .i64 0, .string ByteArray.empty, .string ByteArray.empty, .int .i64 0, .int .i64 0]) (t := 61) ?hr ?_; (case hd => rfl); (case hg => rfl); (case hr => first | (go_simp; done) | (go_simp; rfl)); intro g7 hg_ W1 hbox hb; have GE_g7 := ge1 hg_ HB; have NE_g7_g2 := ne1 hg_ BK_g2; have NE_g2_g7 := ne2 NE_g7_g2; replace HB := bs HB hb; (try clear c_g2); replace BK_g2 := bb BK_g2 hb; have c_g2 := cf7 BK_g2; replace HO := bR HO hb; have BK_g7 := am hbox; have c_g7 := cf6 BK_g7; clear hb hbox hg_; (try clear pA); have pA := pw_cell_below HB.out PA.out) | ((with_reducible refine gate_store (t := 61) (p := 7) rfl ?_); refine store_event (t := 61) (p := 7) (v := ?vo_W2_15) (w1 := ?w1_W2_16) ?hg ?ho ?hn ?hr ?_; (case ho => rfl); (case hg => rfl); (case hn => rfl); (case hr => first | (go_simp; done) | (go_simp; rfl)); intro W2 hw; have hk := kb6 hw; replace HO := am (Kd.R_mono (Kd.R_keep (Kd.R_types HO.out BK_g7.out (by decide)) hk (fun _ h_ => h_.2)) (fun _ h_ => h_.1)); replace HB := sb6 HB GE_g7 hw; (try clear c_g2); replace BK_g2 := bk BK_g2 hk NE_g2_g7; have c_g2 := cf7 BK_g2; (try clear c_g7); replace BK_g7 := bp6 BK_g7 hw; have c_g7 := cf6 BK_g7; clear hk hw; (try clear pA); have pA := pw_cell_below HB.out PA.out) | (go_at_call 29; refine (truth_is x false _ hta.out).mono ?_; rintro e W3 ⟨rfl, hb⟩; replace HB := bs HB hb; (try clear c_g2); replace BK_g2 := bb BK_g2 hb; have c_g2 := cf7 BK_g2; (try clear c_g7); replace BK_g7 := bb BK_g7 hb; have c_g7 := cf6 BK_g7; replace HO := bR HO hb; clear hb; (try clear pA); have pA := pw_cell_below HB.out PA.out))
     refine bodyPost_ret (v := .tuple #[.slice none 0 0, .bool false]) (by simp [results, Tryd.results18, go_sem, *]) rfl (rnb_bad HE.out rfl HB.out)
    have hta := am hta0
    clear hta0
    obtain ⟨nB0, nBk⟩ := HpB.out (by omega)
    have eB : decide (0 ≤ a5) = true := by simp; omega
    obtain ⟨ad_, e_, bB, _⟩ := at_T61 HP.out a5 nB0 (by omega)
    obtain rfl := Option.some.inj e_
    clear e_
    obtain ⟨y, hy⟩ : ∃ y, y = (rd_T61 t a5).f0 := ⟨_, rfl⟩
    rw [← hy] at bB
    have HYY := am hy
    clear hy
    have PB := am bB
    have pB := pw_cell_below HB.out bB
    clear bB
    have nBl : a5 < (t.length : Int) := by omega
    cases htb0 : truthO y
    ·have htb := am htb0
     clear htb0
     have HE := am (rnbV_bad hlt (its := its) (by rw [← HI.out]; exact nodeR_badB n12 HW.out (by rw [← HX.out]; exact hta.out) nB0 (by rw [← HYY.out]; exact htb.out)))
     clear hp1 hp26
     have tokA : True := trivial
     go_wp2_with (first | ((with_reducible refine gate_dst (N := 7) rfl ?_); refine box_event ?hg (N := 7) ?hd (cs := #[.int .i64 0, .int .i64 0, .string ByteArray.empty, .string ByteArray.empty, .int .i64 0, .int .i64 0]) (t := 61) ?hr ?_; (case hd => rfl); (case hg => rfl); (case hr => first | (go_simp; done) | (go_simp; rfl)); intro g7 hg_ W1 hbox hb; have GE_g7 := ge1 hg_ HB; have NE_g7_g2 := ne1 hg_ BK_g2; have NE_g2_g7 := ne2 NE_g7_g2; replace HB := bs HB hb; (try clear c_g2); replace BK_g2 := bb BK_g2 hb; have c_g2 := cf7 BK_g2; replace HO := bR HO hb; have BK_g7 := am hbox; have c_g7 := cf6 BK_g7; clear hb hbox hg_; (try clear pA); have pA := pw_cell_below HB.out PA.out; (try clear pB); have pB := pw_cell_below HB.out PB.out) | ((with_reducible refine gate_store (t := 61) (p := 7) rfl ?_); refine store_event (t := 61) (p := 7) (v := ?vo_W2_17) (w1 := ?w1_W2_18) ?hg ?ho ?hn ?hr ?_; (case ho => rfl); (case hg => rfl); (case hn => rfl); (case hr => first | (go_simp; done) | (go_simp; rfl)); intro W2 hw; have hk := kb6 hw; replace HO := am (Kd.R_mono (Kd.R_keep (Kd.R_types HO.out BK_g7.out (by decide)) hk (fun _ h_ => h_.2)) (fun _ h_ => h_.1)); replace HB := sb6 HB GE_g7 hw; (try clear c_g2); replace BK_g2 := bk BK_g2 hk NE_g2_g7; have c_g2 := cf7 BK_g2; (try clear c_g7); replace BK_g7 := bp6 BK_g7 hw; have c_g7 := cf6 BK_g7; clear hk hw; (try clear pA); have pA := pw_cell_below HB.out PA.out; (try clear pB); have pB := pw_cell_below HB.out PB.out) | (go_at_call 29; have hid_ := tokA; clear tokA; refine (truth_is x true _ hta.out).mono ?_; rintro e W3 ⟨rfl, hb⟩; replace HB := bs HB hb; (try clear c_g2); replace BK_g2 := bb BK_g2 hb; have c_g2 := cf7 BK_g2; (try clear c_g7); replace BK_g7 := bb BK_g7 hb; have c_g7 := cf6 BK_g7; replace HO := bR HO hb; clear hb; (try clear pA); have pA := pw_cell_below HB.out PA.out; (try clear pB); have pB := pw_cell_below HB.out PB.out) | (go_at_call 29; refine (truth_is y false _ htb.out).mono ?_; rintro e W4 ⟨rfl, hb⟩; replace HB := bs HB hb; (try clear c_g2); replace BK_g2 := bb BK_g2 hb; have c_g2 := cf7 BK_g2; (try clear c_g7); replace BK_g7 := bb BK_g7 hb; have c_g7 := cf6 BK_g7; replace HO := bR HO hb; clear hb; (try clear pA); have pA := pw_cell_below HB.out PA.out; (try clear pB); have pB := pw_cell_below HB.out PB.out))
     refine bodyPost_ret (v := .tuple #[.slice none 0 0, .bool false]) (by simp [results, Tryd.results18, go_sem, *]) rfl (rnb_bad HE.out rfl HB.out)
    have htb := am htb0
    clear htb0
    have HY := am (nodeR_okB (its := its) (t := t) (n := ⟨a0, a1, a2, a3, a4, a5⟩) n12 HW.out (by rw [← HX.out]; exact hta.out) nB0 (by rw [← HYY.out]; exact htb.out))
    clear hp1 hp26
    have tokA : True := trivial
    go_wp2_with (first | ((with_reducible refine gate_dst (N := 7) rfl ?_); refine box_event ?hg (N := 7) ?hd (cs := #[.int .i64 0, .int .i64 0, .string ByteArray.empty, .string ByteArray.empty, .int .i64 0, .int .i64 0]) (t := 61) ?hr ?_; (case hd => rfl); (case hg => rfl); (case hr => first | (go_simp; done) | (go_simp; rfl)); intro g7 hg_ W1 hbox hb; have GE_g7 := ge1 hg_ HB; have NE_g7_g2 := ne1 hg_ BK_g2; have NE_g2_g7 := ne2 NE_g7_g2; replace HB := bs HB hb; (try clear c_g2); replace BK_g2 := bb BK_g2 hb; have c_g2 := cf7 BK_g2; replace HO := bR HO hb; have BK_g7 := am hbox; have c_g7 := cf6 BK_g7; clear hb hbox hg_; (try clear pA); have pA := pw_cell_below HB.out PA.out; (try clear pB); have pB := pw_cell_below HB.out PB.out) | ((with_reducible refine gate_store (t := 61) (p := 7) rfl ?_); refine store_event (t := 61) (p := 7) (v := ?vo_W2_19) (w1 := ?w1_W2_20) ?hg ?ho ?hn ?hr ?_; (case ho => rfl); (case hg => rfl); (case hn => rfl); (case hr => first | (go_simp; done) | (go_simp; rfl)); intro W2 hw; have hk := kb6 hw; replace HO := am (Kd.R_mono (Kd.R_keep (Kd.R_types HO.out BK_g7.out (by decide)) hk (fun _ h_ => h_.2)) (fun _ h_ => h_.1)); replace HB := sb6 HB GE_g7 hw; (try clear c_g2); replace BK_g2 := bk BK_g2 hk NE_g2_g7; have c_g2 := cf7 BK_g2; (try clear c_g7); replace BK_g7 := bp6 BK_g7 hw; have c_g7 := cf6 BK_g7; clear hk hw; (try clear pA); have pA := pw_cell_below HB.out PA.out; (try clear pB); have pB := pw_cell_below HB.out PB.out) | (go_at_call 29; have hid_ := tokA; clear tokA; refine (truth_is x true _ hta.out).mono ?_; rintro e W3 ⟨rfl, hb⟩; replace HB := bs HB hb; (try clear c_g2); replace BK_g2 := bb BK_g2 hb; have c_g2 := cf7 BK_g2; (try clear c_g7); replace BK_g7 := bb BK_g7 hb; have c_g7 := cf6 BK_g7; replace HO := bR HO hb; clear hb; (try clear pA); have pA := pw_cell_below HB.out PA.out; (try clear pB); have pB := pw_cell_below HB.out PB.out) | (go_at_call 29; refine (truth_is y true _ htb.out).mono ?_; rintro e W4 ⟨rfl, hb⟩; replace HB := bs HB hb; (try clear c_g2); replace BK_g2 := bb BK_g2 hb; have c_g2 := cf7 BK_g2; (try clear c_g7); replace BK_g7 := bb BK_g7 hb; have c_g7 := cf6 BK_g7; replace HO := bR HO hb; clear hb; (try clear pA); have pA := pw_cell_below HB.out PA.out; (try clear pB); have pB := pw_cell_below HB.out PB.out))
    go_roundw
    case rel =>
     have HN1 : Aside0 (∀ j, j < k + 1 → nodeR its t (rd_T61 t (j : Int)) = true) := ⟨fun j hj => by
      by_cases h : j < k
      ·exact HN.out j h
      obtain rfl : j = k := by omega
      rw [← HI.out]; exact HY.out⟩
     first
     | exact ⟨k + 1, by first | rfl | (rw [eK]; rfl), rfl, hlt, HN1, ⟨by rw [← itemsK_same hlt HZ.out]; exact HO.out⟩, HB, BK_g2⟩
     | (refine ⟨_, _, _, _, _, _, ?_, rfl, rfl, rfl, rfl, rfl, rfl⟩; exact ⟨k + 1, rfl, rfl, hlt, HN1, ⟨by rw [← itemsK_same hlt HZ.out]; exact HO.out⟩, HB, BK_g2⟩)
    case measure => first | exact mu2_ hlt (Int.lt_succ _) | exact mu2_ hlt (by rw [eK]; exact Int.lt_succ _)
   have e25 : (a0 == 25) = false := by simp; omega
   by_cases h26 : a0 = 26
   ·have e26 : (a0 == 26) = true := by simp; omega
    have n14 : 14 ≤ a0 := by omega
    have HW := am (show wantO a0 = true from by subst h26; rfl)
    clear h26
    cases hta0 : truthO x
    ·have hta := am hta0
     clear hta0
     have HE := am (rnbV_bad hlt (its := its) (by rw [← HI.out]; exact nodeR_badA n12 HW.out (by rw [← HX.out]; exact hta.out)))
     clear hp1 hp26
     go_wp2_with (first | ((with_reducible refine gate_dst (N := 7) rfl ?_); refine box_event ?hg (N := 7) ?hd (cs := #[.int .i64 0, .int .i64 0, .string ByteArray.empty, .string ByteArray.empty, .int .i64 0, .int .i64 0]) (t := 61) ?hr ?_; (case hd => rfl); (case hg => rfl); (case hr => first | (go_simp; done) | (go_simp; rfl)); intro g7 hg_ W1 hbox hb; have GE_g7 := ge1 hg_ HB; have NE_g7_g2 := ne1 hg_ BK_g2; have NE_g2_g7 := ne2 NE_g7_g2; replace HB := bs HB hb; (try clear c_g2); replace BK_g2 := bb BK_g2 hb; have c_g2 := cf7 BK_g2; replace HO := bR HO hb; have BK_g7 := am hbox; have c_g7 := cf6 BK_g7; clear hb hbox hg_; (try clear pA); have pA := pw_cell_below HB.out PA.out) | ((with_reducible refine gate_store (t := 61) (p := 7) rfl ?_); refine store_event (t := 61) (p := 7) (v := ?vo_W2_21) (w1 := ?w1_W2_22) ?hg ?ho ?hn ?hr ?_; (case ho => rfl); (case hg => rfl); (case hn => rfl); (case hr => first | (go_simp; done) | (go_simp; rfl)); intro W2 hw; have hk := kb6 hw; replace HO := am (Kd.R_mono (Kd.R_keep (Kd.R_types HO.out BK_g7.out (by decide)) hk (fun _ h_ => h_.2)) (fun _ h_ => h_.1)); replace HB := sb6 HB GE_g7 hw; (try clear c_g2); replace BK_g2 := bk BK_g2 hk NE_g2_g7; have c_g2 := cf7 BK_g2; (try clear c_g7); replace BK_g7 := bp6 BK_g7 hw; have c_g7 := cf6 BK_g7; clear hk hw; (try clear pA); have pA := pw_cell_below HB.out PA.out) | (go_at_call 29; refine (truth_is x false _ hta.out).mono ?_; rintro e W3 ⟨rfl, hb⟩; replace HB := bs HB hb; (try clear c_g2); replace BK_g2 := bb BK_g2 hb; have c_g2 := cf7 BK_g2; (try clear c_g7); replace BK_g7 := bb BK_g7 hb; have c_g7 := cf6 BK_g7; replace HO := bR HO hb; clear hb; (try clear pA); have pA := pw_cell_below HB.out PA.out))
     refine bodyPost_ret (v := .tuple #[.slice none 0 0, .bool false]) (by simp [results, Tryd.results18, go_sem, *]) rfl (rnb_bad HE.out rfl HB.out)
    have hta := am hta0
    clear hta0
    obtain ⟨nB0, nBk⟩ := HpB.out (by omega)
    have eB : decide (0 ≤ a5) = true := by simp; omega
    obtain ⟨ad_, e_, bB, _⟩ := at_T61 HP.out a5 nB0 (by omega)
    obtain rfl := Option.some.inj e_
    clear e_
    obtain ⟨y, hy⟩ : ∃ y, y = (rd_T61 t a5).f0 := ⟨_, rfl⟩
    rw [← hy] at bB
    have HYY := am hy
    clear hy
    have PB := am bB
    have pB := pw_cell_below HB.out bB
    clear bB
    have nBl : a5 < (t.length : Int) := by omega
    cases htb0 : truthO y
    ·have htb := am htb0
     clear htb0
     have HE := am (rnbV_bad hlt (its := its) (by rw [← HI.out]; exact nodeR_badB n12 HW.out (by rw [← HX.out]; exact hta.out) nB0 (by rw [← HYY.out]; exact htb.out)))
     clear hp1 hp26
     have tokA : True := trivial
     go_wp2_with (first | ((with_reducible refine gate_dst (N := 7) rfl ?_); refine box_event ?hg (N := 7) ?hd (cs := #[.int .i64 0, .int .i64 0, .string ByteArray.empty, .string ByteArray.empty, .int .i64 0, .int .i64 0]) (t := 61) ?hr ?_; (case hd => rfl); (case hg => rfl); (case hr => first | (go_simp; done) | (go_simp; rfl)); intro g7 hg_ W1 hbox hb; have GE_g7 := ge1 hg_ HB; have NE_g7_g2 := ne1 hg_ BK_g2; have NE_g2_g7 := ne2 NE_g7_g2; replace HB := bs HB hb; (try clear c_g2); replace BK_g2 := bb BK_g2 hb; have c_g2 := cf7 BK_g2; replace HO := bR HO hb; have BK_g7 := am hbox; have c_g7 := cf6 BK_g7; clear hb hbox hg_; (try clear pA); have pA := pw_cell_below HB.out PA.out; (try clear pB); have pB := pw_cell_below HB.out PB.out) | ((with_reducible refine gate_store (t := 61) (p := 7) rfl ?_); refine store_event (t := 61) (p := 7) (v := ?vo_W2_23) (w1 := ?w1_W2_24) ?hg ?ho ?hn ?hr ?_; (case ho => rfl); (case hg => rfl); (case hn => rfl); (case hr => first | (go_simp; done) | (go_simp; rfl)); intro W2 hw; have hk := kb6 hw; replace HO := am (Kd.R_mono (Kd.R_keep (Kd.R_types HO.out BK_g7.out (by decide)) hk (fun _ h_ => h_.2)) (fun _ h_ => h_.1)); replace HB := sb6 HB GE_g7 hw; (try clear c_g2); replace BK_g2 := bk BK_g2 hk NE_g2_g7; have c_g2 := cf7 BK_g2; (try clear c_g7); replace BK_g7 := bp6 BK_g7 hw; have c_g7 := cf6 BK_g7; clear hk hw; (try clear pA); have pA := pw_cell_below HB.out PA.out; (try clear pB); have pB := pw_cell_below HB.out PB.out) | (go_at_call 29; have hid_ := tokA; clear tokA; refine (truth_is x true _ hta.out).mono ?_; rintro e W3 ⟨rfl, hb⟩; replace HB := bs HB hb; (try clear c_g2); replace BK_g2 := bb BK_g2 hb; have c_g2 := cf7 BK_g2; (try clear c_g7); replace BK_g7 := bb BK_g7 hb; have c_g7 := cf6 BK_g7; replace HO := bR HO hb; clear hb; (try clear pA); have pA := pw_cell_below HB.out PA.out; (try clear pB); have pB := pw_cell_below HB.out PB.out) | (go_at_call 29; refine (truth_is y false _ htb.out).mono ?_; rintro e W4 ⟨rfl, hb⟩; replace HB := bs HB hb; (try clear c_g2); replace BK_g2 := bb BK_g2 hb; have c_g2 := cf7 BK_g2; (try clear c_g7); replace BK_g7 := bb BK_g7 hb; have c_g7 := cf6 BK_g7; replace HO := bR HO hb; clear hb; (try clear pA); have pA := pw_cell_below HB.out PA.out; (try clear pB); have pB := pw_cell_below HB.out PB.out))
     refine bodyPost_ret (v := .tuple #[.slice none 0 0, .bool false]) (by simp [results, Tryd.results18, go_sem, *]) rfl (rnb_bad HE.out rfl HB.out)
    have htb := am htb0
    clear htb0
    have HY := am (nodeR_okB (its := its) (t := t) (n := ⟨a0, a1, a2, a3, a4, a5⟩) n12 HW.out (by rw [← HX.out]; exact hta.out) nB0 (by rw [← HYY.out]; exact htb.out))
    clear hp1 hp26
    have tokA : True := trivial
    go_wp2_with (first | ((with_reducible refine gate_dst (N := 7) rfl ?_); refine box_event ?hg (N := 7) ?hd (cs := #[.int .i64 0, .int .i64 0, .string ByteArray.empty, .string ByteArray.empty, .int .i64 0, .int .i64 0]) (t := 61) ?hr ?_; (case hd => rfl); (case hg => rfl); (case hr => first | (go_simp; done) | (go_simp; rfl)); intro g7 hg_ W1 hbox hb; have GE_g7 := ge1 hg_ HB; have NE_g7_g2 := ne1 hg_ BK_g2; have NE_g2_g7 := ne2 NE_g7_g2; replace HB := bs HB hb; (try clear c_g2); replace BK_g2 := bb BK_g2 hb; have c_g2 := cf7 BK_g2; replace HO := bR HO hb; have BK_g7 := am hbox; have c_g7 := cf6 BK_g7; clear hb hbox hg_; (try clear pA); have pA := pw_cell_below HB.out PA.out; (try clear pB); have pB := pw_cell_below HB.out PB.out) | ((with_reducible refine gate_store (t := 61) (p := 7) rfl ?_); refine store_event (t := 61) (p := 7) (v := ?vo_W2_25) (w1 := ?w1_W2_26) ?hg ?ho ?hn ?hr ?_; (case ho => rfl); (case hg => rfl); (case hn => rfl); (case hr => first | (go_simp; done) | (go_simp; rfl)); intro W2 hw; have hk := kb6 hw; replace HO := am (Kd.R_mono (Kd.R_keep (Kd.R_types HO.out BK_g7.out (by decide)) hk (fun _ h_ => h_.2)) (fun _ h_ => h_.1)); replace HB := sb6 HB GE_g7 hw; (try clear c_g2); replace BK_g2 := bk BK_g2 hk NE_g2_g7; have c_g2 := cf7 BK_g2; (try clear c_g7); replace BK_g7 := bp6 BK_g7 hw; have c_g7 := cf6 BK_g7; clear hk hw; (try clear pA); have pA := pw_cell_below HB.out PA.out; (try clear pB); have pB := pw_cell_below HB.out PB.out) | (go_at_call 29; have hid_ := tokA; clear tokA; refine (truth_is x true _ hta.out).mono ?_; rintro e W3 ⟨rfl, hb⟩; replace HB := bs HB hb; (try clear c_g2); replace BK_g2 := bb BK_g2 hb; have c_g2 := cf7 BK_g2; (try clear c_g7); replace BK_g7 := bb BK_g7 hb; have c_g7 := cf6 BK_g7; replace HO := bR HO hb; clear hb; (try clear pA); have pA := pw_cell_below HB.out PA.out; (try clear pB); have pB := pw_cell_below HB.out PB.out) | (go_at_call 29; refine (truth_is y true _ htb.out).mono ?_; rintro e W4 ⟨rfl, hb⟩; replace HB := bs HB hb; (try clear c_g2); replace BK_g2 := bb BK_g2 hb; have c_g2 := cf7 BK_g2; (try clear c_g7); replace BK_g7 := bb BK_g7 hb; have c_g7 := cf6 BK_g7; replace HO := bR HO hb; clear hb; (try clear pA); have pA := pw_cell_below HB.out PA.out; (try clear pB); have pB := pw_cell_below HB.out PB.out))
    go_roundw
    case rel =>
     have HN1 : Aside0 (∀ j, j < k + 1 → nodeR its t (rd_T61 t (j : Int)) = true) := ⟨fun j hj => by
      by_cases h : j < k
      ·exact HN.out j h
      obtain rfl : j = k := by omega
      rw [← HI.out]; exact HY.out⟩
     first
     | exact ⟨k + 1, by first | rfl | (rw [eK]; rfl), rfl, hlt, HN1, ⟨by rw [← itemsK_same hlt HZ.out]; exact HO.out⟩, HB, BK_g2⟩
     | (refine ⟨_, _, _, _, _, _, ?_, rfl, rfl, rfl, rfl, rfl, rfl⟩; exact ⟨k + 1, rfl, rfl, hlt, HN1, ⟨by rw [← itemsK_same hlt HZ.out]; exact HO.out⟩, HB, BK_g2⟩)
    case measure => first | exact mu2_ hlt (Int.lt_succ _) | exact mu2_ hlt (by rw [eK]; exact Int.lt_succ _)
   have e26 : (a0 == 26) = false := by simp; omega
   have HW := am (show wantO a0 = false from by unfold wantO; simp; omega)
   cases hta0 : truthO x
   ·have hta := am hta0
    clear hta0
    obtain ⟨nB0, nBk⟩ := HpB.out (by omega)
    have eB : decide (0 ≤ a5) = true := by simp; omega
    obtain ⟨ad_, e_, bB, _⟩ := at_T61 HP.out a5 nB0 (by omega)
    obtain rfl := Option.some.inj e_
    clear e_
    obtain ⟨y, hy⟩ : ∃ y, y = (rd_T61 t a5).f0 := ⟨_, rfl⟩
    rw [← hy] at bB
    have HYY := am hy
    clear hy
    have PB := am bB
    have pB := pw_cell_below HB.out bB
    clear bB
    have nBl : a5 < (t.length : Int) := by omega
    cases htb0 : truthO y
    ·have htb := am htb0
     clear htb0
     have HY := am (nodeR_okB (its := its) (t := t) (n := ⟨a0, a1, a2, a3, a4, a5⟩) n12 HW.out (by rw [← HX.out]; exact hta.out) nB0 (by rw [← HYY.out]; exact htb.out))
     clear hp1 hp26
     have tokA : True := trivial
     go_wp2_with (first | ((with_reducible refine gate_dst (N := 7) rfl ?_); refine box_event ?hg (N := 7) ?hd (cs := #[.int .i64 0, .int .i64 0, .string ByteArray.empty, .string ByteArray.empty, .int .i64 0, .int .i64 0]) (t := 61) ?hr ?_; (case hd => rfl); (case hg => rfl); (case hr => first | (go_simp; done) | (go_simp; rfl)); intro g7 hg_ W1 hbox hb; have GE_g7 := ge1 hg_ HB; have NE_g7_g2 := ne1 hg_ BK_g2; have NE_g2_g7 := ne2 NE_g7_g2; replace HB := bs HB hb; (try clear c_g2); replace BK_g2 := bb BK_g2 hb; have c_g2 := cf7 BK_g2; replace HO := bR HO hb; have BK_g7 := am hbox; have c_g7 := cf6 BK_g7; clear hb hbox hg_; (try clear pA); have pA := pw_cell_below HB.out PA.out; (try clear pB); have pB := pw_cell_below HB.out PB.out) | ((with_reducible refine gate_store (t := 61) (p := 7) rfl ?_); refine store_event (t := 61) (p := 7) (v := ?vo_W2_27) (w1 := ?w1_W2_28) ?hg ?ho ?hn ?hr ?_; (case ho => rfl); (case hg => rfl); (case hn => rfl); (case hr => first | (go_simp; done) | (go_simp; rfl)); intro W2 hw; have hk := kb6 hw; replace HO := am (Kd.R_mono (Kd.R_keep (Kd.R_types HO.out BK_g7.out (by decide)) hk (fun _ h_ => h_.2)) (fun _ h_ => h_.1)); replace HB := sb6 HB GE_g7 hw; (try clear c_g2); replace BK_g2 := bk BK_g2 hk NE_g2_g7; have c_g2 := cf7 BK_g2; (try clear c_g7); replace BK_g7 := bp6 BK_g7 hw; have c_g7 := cf6 BK_g7; clear hk hw; (try clear pA); have pA := pw_cell_below HB.out PA.out; (try clear pB); have pB := pw_cell_below HB.out PB.out) | (go_at_call 29; have hid_ := tokA; clear tokA; refine (truth_is x false _ hta.out).mono ?_; rintro e W3 ⟨rfl, hb⟩; replace HB := bs HB hb; (try clear c_g2); replace BK_g2 := bb BK_g2 hb; have c_g2 := cf7 BK_g2; (try clear c_g7); replace BK_g7 := bb BK_g7 hb; have c_g7 := cf6 BK_g7; replace HO := bR HO hb; clear hb; (try clear pA); have pA := pw_cell_below HB.out PA.out; (try clear pB); have pB := pw_cell_below HB.out PB.out) | (go_at_call 29; refine (truth_is y false _ htb.out).mono ?_; rintro e W4 ⟨rfl, hb⟩; replace HB := bs HB hb; (try clear c_g2); replace BK_g2 := bb BK_g2 hb; have c_g2 := cf7 BK_g2; (try clear c_g7); replace BK_g7 := bb BK_g7 hb; have c_g7 := cf6 BK_g7; replace HO := bR HO hb; clear hb; (try clear pA); have pA := pw_cell_below HB.out PA.out; (try clear pB); have pB := pw_cell_below HB.out PB.out))
     go_roundw
     case rel =>
      have HN1 : Aside0 (∀ j, j < k + 1 → nodeR its t (rd_T61 t (j : Int)) = true) := ⟨fun j hj => by
       by_cases h : j < k
       ·exact HN.out j h
       obtain rfl : j = k := by omega
       rw [← HI.out]; exact HY.out⟩
      first
      | exact ⟨k + 1, by first | rfl | (rw [eK]; rfl), rfl, hlt, HN1, ⟨by rw [← itemsK_same hlt HZ.out]; exact HO.out⟩, HB, BK_g2⟩
      | (refine ⟨_, _, _, _, _, _, ?_, rfl, rfl, rfl, rfl, rfl, rfl⟩; exact ⟨k + 1, rfl, rfl, hlt, HN1, ⟨by rw [← itemsK_same hlt HZ.out]; exact HO.out⟩, HB, BK_g2⟩)
     case measure => first | exact mu2_ hlt (Int.lt_succ _) | exact mu2_ hlt (by rw [eK]; exact Int.lt_succ _)
    have htb := am htb0
    clear htb0
    have HE := am (rnbV_bad hlt (its := its) (by rw [← HI.out]; exact nodeR_badB n12 HW.out (by rw [← HX.out]; exact hta.out) nB0 (by rw [← HYY.out]; exact htb.out)))
    clear hp1 hp26
    have tokA : True := trivial
    go_wp2_with (first | ((with_reducible refine gate_dst (N := 7) rfl ?_); refine box_event ?hg (N := 7) ?hd (cs := #[.int .i64 0, .int .i64 0, .string ByteArray.empty, .string ByteArray.empty, .int .i64 0, .int .i64 0]) (t := 61) ?hr ?_; (case hd => rfl); (case hg => rfl); (case hr => first | (go_simp; done) | (go_simp; rfl)); intro g7 hg_ W1 hbox hb; have GE_g7 := ge1 hg_ HB; have NE_g7_g2 := ne1 hg_ BK_g2; have NE_g2_g7 := ne2 NE_g7_g2; replace HB := bs HB hb; (try clear c_g2); replace BK_g2 := bb BK_g2 hb; have c_g2 := cf7 BK_g2; replace HO := bR HO hb; have BK_g7 := am hbox; have c_g7 := cf6 BK_g7; clear hb hbox hg_; (try clear pA); have pA := pw_cell_below HB.out PA.out; (try clear pB); have pB := pw_cell_below HB.out PB.out) | ((with_reducible refine gate_store (t := 61) (p := 7) rfl ?_); refine store_event (t := 61) (p := 7) (v := ?vo_W2_29) (w1 := ?w1_W2_30) ?hg ?ho ?hn ?hr ?_; (case ho => rfl); (case hg => rfl); (case hn => rfl); (case hr => first | (go_simp; done) | (go_simp; rfl)); intro W2 hw; have hk := kb6 hw; replace HO := am (Kd.R_mono (Kd.R_keep (Kd.R_types HO.out BK_g7.out (by decide)) hk (fun _ h_ => h_.2)) (fun _ h_ => h_.1)); replace HB := sb6 HB GE_g7 hw; (try clear c_g2); replace BK_g2 := bk BK_g2 hk NE_g2_g7; have c_g2 := cf7 BK_g2; (try clear c_g7); replace BK_g7 := bp6 BK_g7 hw; have c_g7 := cf6 BK_g7; clear hk hw; (try clear pA); have pA := pw_cell_below HB.out PA.out; (try clear pB); have pB := pw_cell_below HB.out PB.out) | (go_at_call 29; have hid_ := tokA; clear tokA; refine (truth_is x false _ hta.out).mono ?_; rintro e W3 ⟨rfl, hb⟩; replace HB := bs HB hb; (try clear c_g2); replace BK_g2 := bb BK_g2 hb; have c_g2 := cf7 BK_g2; (try clear c_g7); replace BK_g7 := bb BK_g7 hb; have c_g7 := cf6 BK_g7; replace HO := bR HO hb; clear hb; (try clear pA); have pA := pw_cell_below HB.out PA.out; (try clear pB); have pB := pw_cell_below HB.out PB.out) | (go_at_call 29; refine (truth_is y true _ htb.out).mono ?_; rintro e W4 ⟨rfl, hb⟩; replace HB := bs HB hb; (try clear c_g2); replace BK_g2 := bb BK_g2 hb; have c_g2 := cf7 BK_g2; (try clear c_g7); replace BK_g7 := bb BK_g7 hb; have c_g7 := cf6 BK_g7; replace HO := bR HO hb; clear hb; (try clear pA); have pA := pw_cell_below HB.out PA.out; (try clear pB); have pB := pw_cell_below HB.out PB.out))
    refine bodyPost_ret (v := .tuple #[.slice none 0 0, .bool false]) (by simp [results, Tryd.results18, go_sem, *]) rfl (rnb_bad HE.out rfl HB.out)
   have hta := am hta0
   clear hta0
   have HE := am (rnbV_bad hlt (its := its) (by rw [← HI.out]; exact nodeR_badA n12 HW.out (by rw [← HX.out]; exact hta.out)))
   clear hp1 hp26
   go_wp2_with (first | ((with_reducible refine gate_dst (N := 7) rfl ?_); refine box_event ?hg (N := 7) ?hd (cs := #[.int .i64 0, .int .i64 0, .string ByteArray.empty, .string ByteArray.empty, .int .i64 0, .int .i64 0]) (t := 61) ?hr ?_; (case hd => rfl); (case hg => rfl); (case hr => first | (go_simp; done) | (go_simp; rfl)); intro g7 hg_ W1 hbox hb; have GE_g7 := ge1 hg_ HB; have NE_g7_g2 := ne1 hg_ BK_g2; have NE_g2_g7 := ne2 NE_g7_g2; replace HB := bs HB hb; (try clear c_g2); replace BK_g2 := bb BK_g2 hb; have c_g2 := cf7 BK_g2; replace HO := bR HO hb; have BK_g7 := am hbox; have c_g7 := cf6 BK_g7; clear hb hbox hg_; (try clear pA); have pA := pw_cell_below HB.out PA.out) | ((with_reducible refine gate_store (t := 61) (p := 7) rfl ?_); refine store_event (t := 61) (p := 7) (v := ?vo_W2_31) (w1 := ?w1_W2_32) ?hg ?ho ?hn ?hr ?_; (case ho => rfl); (case hg => rfl); (case hn => rfl); (case hr => first | (go_simp; done) | (go_simp; rfl)); intro W2 hw; have hk := kb6 hw; replace HO := am (Kd.R_mono (Kd.R_keep (Kd.R_types HO.out BK_g7.out (by decide)) hk (fun _ h_ => h_.2)) (fun _ h_ => h_.1)); replace HB := sb6 HB GE_g7 hw; (try clear c_g2); replace BK_g2 := bk BK_g2 hk NE_g2_g7; have c_g2 := cf7 BK_g2; (try clear c_g7); replace BK_g7 := bp6 BK_g7 hw; have c_g7 := cf6 BK_g7; clear hk hw; (try clear pA); have pA := pw_cell_below HB.out PA.out) | (go_at_call 29; refine (truth_is x true _ hta.out).mono ?_; rintro e W3 ⟨rfl, hb⟩; replace HB := bs HB hb; (try clear c_g2); replace BK_g2 := bb BK_g2 hb; have c_g2 := cf7 BK_g2; (try clear c_g7); replace BK_g7 := bb BK_g7 hb; have c_g7 := cf6 BK_g7; replace HO := bR HO hb; clear hb; (try clear pA); have pA := pw_cell_below HB.out PA.out))
   refine bodyPost_ret (v := .tuple #[.slice none 0 0, .bool false]) (by simp [results, Tryd.results18, go_sem, *]) rfl (rnb_bad HE.out rfl HB.out)
  have hk := HK.out
  clear HK
  obtain rfl : k = t.length := by omega
  have HE := am (rnbV_good (its := its) HT.out HN.out)
  have eD : decide ((t.length : Int) < (t.length : Int)) = false := decide_eq_false (by omega)
  clear hk
  go_wp2
  refine bodyPost_ret (v := .tuple #[.slice (some ⟨gi, 0, none⟩) t.length ci, .bool true]) (by simp [results, Tryd.results18, go_sem, *]) rfl (rnb_good HE.out rfl ?_ HB.out)
  rw [← itemsK_full]
  exact Kd.R_mono HO.out (fun _ _ => trivial)
end Go.Proofs.YtbhpjpeknooppaaDoor.M
