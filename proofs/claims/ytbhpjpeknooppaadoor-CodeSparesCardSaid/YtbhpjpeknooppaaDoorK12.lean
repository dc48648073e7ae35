/- The contract of code.Compile. Conditions: schema, query and nodes are read; at most 2199023255488 nodes. -/
import Derived.Test.YtbhpjpeknooppaaDoorK11
namespace Go.Proofs.YtbhpjpeknooppaaDoor.M
open Go.RowKit Go.Proofs.YtbhpjpeknooppaaDoorW.PrintWords Go.Proofs.YtbhpjpeknooppaaDoorW.PrintLast Go.Proofs.YtbhpjpeknooppaaDoorW.PrintMore
open Go.Proofs.YtbhpjpeknooppaaDoor.PCodeSpares
set_option linter.unusedVariables false
set_option linter.unusedSimpArgs false
def comp_a.T : Bool × List (List Nat × List Nat) := (true, [([], []), ([], []), ([], []), ([], []), ([2, 3], [2, 3]), ([4], [4]), ([0, 1, 5], [0, 1, 5])])
def comp_a.B : List Nat := [0, 0, 0, 0, 12, 28, 63]
theorem comp_a.tab : rtab .any (opsOf Tryd.f8 19) = comp_a.T := by kernel_rfl
theorem comp_a.bits : waitsOk comp_a.T.2 comp_a.B = true := by kernel_rfl
def comp_b.T : Bool × List (List Nat × List Nat) := (true, [([], []), ([0], [0]), ([1], [1]), ([2], [2]), ([3], [3]), ([], []), ([], []), ([6], [6]), ([5, 7], [5, 7]), ([8], [8]), ([], []), ([10], [10]), ([11], [11]), ([12], [12]), ([13], [13]), ([14], [14]), ([4, 9, 0, 1, 2, 3, 4, 5, 6, 7, 8, 9, 10, 11, 12, 13, 14, 15], [4, 9]), ([16, 0, 1, 2, 3, 4, 5, 6, 7, 8, 9, 10, 11, 12, 13, 14, 15], [16]), ([17, 15, 0, 1, 2, 3, 4, 5, 6, 7, 8, 9, 10, 11, 12, 13, 14, 15], [15, 17])])
def comp_b.B : List Nat := [0, 1, 3, 7, 15, 0, 0, 64, 224, 480, 0, 1024, 3072, 7168, 15360, 31744, 65535, 131071, 262143]
theorem comp_b.tab : rtab .any (opsOf Tryd.f8 21) = comp_b.T := by kernel_rfl
theorem comp_b.bits : waitsOk comp_b.T.2 comp_b.B = true := by kernel_rfl
open Go.WideMaps Go.Maps
theorem info45 : (Tryd.prog.info? 45).map (fun i => (i.zero, i.size, i.bytes)) = some (some (.int .i64 0), 1, 8) := by kernel_rfl
def CompPost (types : List S65) (its : List S67) (t : List S61) (w : World) (e : Ending) (w' : World) : Prop :=
 ∃ vc vl, e = .returned (.agg #[vc, vl]) ∧ Kd.R k47 47 w' w.heap.size (fun _ => True) vc (compV types its t).1 ∧ Kd.S (Kd.slice 3 (Kd.int .i64)) 48 w' w.heap.size (fun _ => True) vl (compV types its t).2 ∧ Below w.heap.size w w'
abbrev MapAt (w : World) (gm n : Nat) (D : DataW Unit) : Prop := w.ownsMap Tryd.prog 9 (plainElem Tryd.prog 3) gm n D
theorem map_heap {w w1 : World} {gm n : Nat} {D : DataW Unit} (h : MapAt w gm n D) (e : w1.heap[gm]? = w.heap[gm]?) : MapAt w1 gm n D := by
 obtain ⟨es, clock, hb, r⟩ := h
 exact ⟨es, clock, e.trans hb, r⟩
theorem map_below {w w1 : World} {gm n : Nat} {D : DataW Unit} (h : MapAt w gm n D) (hb : Below w.heap.size w w1) : MapAt w1 gm n D := map_heap h (hb.block gm h.lt)
theorem map_ne {w : World} {gm n g t : Nat} {D : DataW Unit} {cs : Array Value} (h : MapAt w gm n D) (hb : w.heap[g]? = some (.cells cs t (0, 0))) : gm ≠ g := by
 rintro rfl
 obtain ⟨es, clock, hb', _⟩ := h
 rw [hb] at hb'
 cases hb'
theorem map_keep {w w1 : World} {gm n g t : Nat} {D : DataW Unit} {cs : Array Value} (h : MapAt w gm n D) (hb : w.heap[g]? = some (.cells cs t (0, 0))) (hk : KeepBut w w1 g none) : MapAt w1 gm n D := map_heap h (hk.2 gm h.lt (map_ne h hb) (by simp))
theorem map_grown {w w1 : World} {gm n g : Nat} {D : DataW Unit} (h : MapAt w gm n D) (hg : w.grownBy w1 (some g)) (hne : gm ≠ g) : MapAt w1 gm n D := map_heap h (hg.block gm h.lt (fun e => hne (by injection e)))
theorem rows_ne {w : World} {b1 b2 e1 e2 g1 g2 n1 n2 c1 c2 : Nat} {ok1 ok2 : Nat → Prop} {xs ys : List Int} (h1 : (Kd.int .i64).R e1 w b1 ok1 (.slice (some ⟨g1, 0, none⟩) n1 c1) xs) (h2 : (Kd.int .i64).R e2 w b2 ok2 (.slice (some ⟨g2, 0, none⟩) n2 c2) ys) (hne : e1 ≠ e2) : g1 ≠ g2 := by
 rintro rfl
 obtain ⟨x, hx⟩ := Kd.R_typed h1 g1 rfl
 obtain ⟨y, hy⟩ := Kd.R_typed h2 g1 rfl
 rw [hx] at hy
 cases hy
 exact hne rfl
theorem row_tight {w : World} {b e g n c : Nat} {ok : Nat → Prop} {xs : List Int} (h : (Kd.int .i64).R e w b ok (.slice (some ⟨g, 0, none⟩) n c) xs) : (Kd.int .i64).R e w b (fun q_ => q_ = g) (.slice (some ⟨g, 0, none⟩) n c) xs :=
 Kd.R_mono (Kd.R_tight rfl h) (fun k hk => by simpa [Value.ownBlock] using hk)
theorem row_blk {w : World} {b e g n c t g2 : Nat} {ok : Nat → Prop} {xs : List Int} {cs : Array Value} (h : (Kd.int .i64).R e w b ok (.slice (some ⟨g, 0, none⟩) n c) xs) (hb : w.heap[g2]? = some (.cells cs t (0, 0))) (hne : e ≠ t) : g2 ≠ g := by
 rintro rfl
 obtain ⟨x, hx⟩ := Kd.R_typed h g2 rfl
 rw [hx] at hb
 cases hb
 exact hne rfl
theorem row_over {w w1 : World} {b e g n c g2 : Nat} {xs : List Int} (h : (Kd.int .i64).R e w b (fun q_ => q_ = g) (.slice (some ⟨g, 0, none⟩) n c) xs) (hg : w.grownBy w1 (some g2)) (hne : g ≠ g2) : (Kd.int .i64).R e w1 b (fun q_ => q_ = g) (.slice (some ⟨g, 0, none⟩) n c) xs :=
 Kd.R_grown h hg (fun k hk e => hne (by injection e with e; omega))
theorem compSt_ne {w : World} {b gc gm : Nat} {ts : Value} {st : CSt} (h : CompSt w b gc gm ts st) : gc ≠ gm ∧ gc < b ∧ gm < b ∧ b ≤ w.heap.size := by
 obtain ⟨vc, vl, D, h⟩ := h
 exact ⟨h.ne, h.gcb, h.gmb, h.size⟩
theorem row_ins {w w1 : World} {b b0 gc gm e g n c : Nat} {xs : List Int} (h : (Kd.int .i64).R e w b0 (fun q_ => q_ = g) (.slice (some ⟨g, 0, none⟩) n c) xs) (hc : Chg (InS w b gc gm) w w1) (h1 : g ≠ gc) (h2 : g ≠ gm) (h3 : g < b) : (Kd.int .i64).R e w1 b0 (fun q_ => q_ = g) (.slice (some ⟨g, 0, none⟩) n c) xs :=
 R_chg h hc (fun k hk hs => by
  subst hk
  rcases hs with e | e | ⟨e, _⟩
  ·exact h1 e
  ·exact h2 e
  omega)
theorem below_ins {w w1 w2 : World} {b gc gm : Nat} (h : Below w.heap.size w w1) (hc : Chg (InS w1 b gc gm) w1 w2) (hb : w.heap.size ≤ b) (h1 : w.heap.size ≤ gc) (h2 : w.heap.size ≤ gm) : Below w.heap.size w w2 :=
 h.trans (hc.below h.size (fun k hk => by
  rcases hk with e | e | ⟨e, _⟩
  ·exact e ▸ h1
  ·exact e ▸ h2
  exact Nat.le_trans hb e))
theorem compSt_grown {w w1 : World} {b gc gm g : Nat} {ts : Value} {st : CSt} (h : CompSt w b gc gm ts st) (hg : w.grownBy w1 (some g)) (h1 : g ≠ gc) (h2 : g ≠ gm) (h3 : g < b) : CompSt w1 b gc gm ts st := by
 obtain ⟨vc, vl, D, h⟩ := h
 refine ⟨vc, vl, D, { cells := blk_grown h.cells hg (fun e => h1 (by injection e with e; exact e.symm)), code := ?_, cols := ?_, map := map_grown h.map hg (fun e => h2 e.symm), names := h.names, len := h.len, gcb := h.gcb, gmb := h.gmb, size := Nat.le_trans h.size hg.size }⟩
 ·exact Kd.R_mono (Kd.R_grown (Kd.R_bound h.code) hg (fun k hk e => by injection e with e; have := hk.2.1; omega)) (fun _ _ => trivial)
 exact Kd.S_mono (Kd.S_grown (Kd.S_bound h.cols) hg (fun k hk e => by injection e with e; have := hk.2.1; omega)) (fun _ _ => trivial)
theorem compP_code {w w1 : World} {b gc gm gk n c : Nat} {ts vl : Value} {st : CSt} {D : DataW Unit} {code' : List S47} (h : CompP w b gc gm ts (.slice (some ⟨gk, 0, none⟩) n c) vl st D) (hg : w.grownBy w1 (some gk)) (ho : Kd.R k47 47 w1 b (fun _ => True) (.slice (some ⟨gk, 0, none⟩) n c) code') : CompSt w1 b gc gm ts ⟨code', st.cols, st.names⟩ :=
 ⟨_, vl, D, { cells := blk_grown h.cells hg (Kd.R_ne h.code h.cells (by decide)), code := ho, cols := Kd.S_over' h.cols (Kd.R_typed h.code) (by decide) hg, map := map_grown h.map hg (fun e => by obtain ⟨_, h_⟩ := Kd.R_typed h.code gk rfl; exact map_ne h.map h_ e), names := h.names, len := h.len, gcb := h.gcb, gmb := h.gmb, size := Nat.le_trans h.size hg.size }⟩
theorem row47 {w : World} {b g n c : Nat} {ok : Nat → Prop} {xs : List S47} (h : Kd.R k47 47 w b ok (.slice (some ⟨g, 0, none⟩) n c) xs) (i : Nat) (hi : i < n) :
  ∀ j u, ([.int .i64 (rd_T47 xs (i : Int)).f0, .int .i64 (rd_T47 xs (i : Int)).f1, .int .i64 (rd_T47 xs (i : Int)).f2, .int .i64 (rd_T47 xs (i : Int)).f3, .int .i64 (rd_T47 xs (i : Int)).f4] : List Value)[j]? = some u → w.cell? ⟨g, i * 5 + j, none⟩ = some u := by
 obtain ⟨hn, _, hC⟩ := Kd.R_reads' h
 obtain ⟨ad, c', he, _, hK, hc⟩ := Kd.C_get hC z47 (i : Int) (by omega) (by omega)
 obtain rfl := Option.some.inj he
 obtain rfl := k47_open hK
 intro j u hu
 have := hc j u hu
 rw [Int.toNat_natCast, show i * k47.sz + j = i * 5 + j from rfl, add_plain] at this
 exact this
def CRel1 (t : List S61) (w : World) (ts : Value) (items : List Int) (gi ci gb cb g6 gc gm : Nat) (i : Value) (w' : World) : Prop :=
 ∃ k : Nat, i = .int .i64 (k : Int) ∧ k ≤ t.length ∧ Aside0 ((Kd.int .i64).R 3 w' w.heap.size (fun q_ => q_ = gi) (.slice (some ⟨gi, 0, none⟩) t.length ci) items) ∧ Aside0 ((Kd.int .i64).R 45 w' w.heap.size (fun q_ => q_ = gb) (.slice (some ⟨gb, 0, none⟩) t.length cb) (beK t k)) ∧ Aside0 (MapAt w' gm 0 (.map [])) ∧
  Aside0 (Below w.heap.size w w') ∧ Aside0 (w'.heap[g6]? = some (.cells #[.slice none 0 0, .slice none 0 0] 42 (0, 0))) ∧ Aside0 (w'.heap[gc]? = some (.cells #[ts, .slice none 0 0, .slice none 0 0, .map (some gm)] 81 (0, 0)))
def CRel2 (types : List S65) (t : List S61) (w : World) (ts : Value) (items : List Int) (gi ci gj cj gb cb g6 gc gm b : Nat) (i : Value) (w' : World) : Prop :=
 ∃ k : Nat, i = .int .i64 (k : Int) ∧ k ≤ t.length ∧ Aside0 ((Kd.int .i64).R 3 w' w.heap.size (fun q_ => q_ = gi) (.slice (some ⟨gi, 0, none⟩) t.length ci) items) ∧ Aside0 ((Kd.int .i64).R 3 w' w.heap.size (fun q_ => q_ = gj) (.slice (some ⟨gj, 0, none⟩) t.length cj) (cpK types items t k).2) ∧ Aside0 ((Kd.int .i64).R 45 w' w.heap.size (fun q_ => q_ = gb) (.slice (some ⟨gb, 0, none⟩) t.length cb) (beK t t.length)) ∧
  Aside0 (CompSt w' b gc gm ts (cpK types items t k).1) ∧ Aside0 (Below w.heap.size w w') ∧ Aside0 (w'.heap[g6]? = some (.cells #[.slice none 0 0, .slice none 0 0] 42 (0, 0)))
set_option maxHeartbeats 8000000 in
set_option maxRecDepth 100000 in
theorem code_Compile (Q0 : Option Addr) (c0 : Nat) (its : List S67) (q1 q2 : Int) (Q3 : Option Addr) (c3 : Nat) (wh : List S61) (q4 : Int) (q5 : ByteArray) (Q6 : Option Addr) (c6 : Nat) (ret : List (List S61)) (T0 : Option Addr) (tc : Nat) (types : List S65) (A : Option Addr) (c : Nat) (t : List S61) (w : World) (G : GlobK w) (hq : QReads w Q0 c0 its q1 q2 Q3 c3 wh q4 q5 Q6 c6 ret) (hty : Kd.C k65 w T0 types.length types) (htc : types.length ≤ tc) (hts : types.length ≤ 4398046511104) (ht : Kd.C k61 w A t.length t) (hsz : t.length ≤ 2199023255488) :
  Calls Tryd.prog 8 #[.agg #[.slice T0 types.length tc], .agg #[.slice Q0 its.length c0, .int .i64 q1, .int .i64 q2, .slice Q3 wh.length c3, .int .i64 q4, .string q5, .slice Q6 ret.length c6], .slice A t.length c] w (CompPost types its t w) := by
 have HG := am G
 have HQ := am hq
 have HTY := am hty
 have HTC := am htc
 have HTS := am hts
 have HP := am ht
 have HS := am hsz
 have HB := am (Below.refl w.heap.size w)
 clear G hq hty htc hts ht hsz
 have hmm := @run_makeMap Tryd.prog
 cases hr0 : rnbV its t
 ·have hr_ := am hr0
  clear hr0
  have HE := am (show compV types its t = ([], []) from by unfold compV; rw [hr_.out]; rfl)
  go_enter Tryd.func8, Tryd.ntmps8
  go_wp2_with (first | ((with_reducible refine gate_dst (N := 3) rfl ?_); refine box_event ?hg (N := 3) ?hd (cs := #[.slice T0 types.length tc]) (t := 24) ?hr ?_; (case hd => rfl); (case hg => rfl); (case hr => first | (go_simp; done) | (go_simp; rfl)); intro g3 hg_ W1 hbox hb; have GE_g3 := ge1 hg_ HB; replace HB := bs HB hb; have BK_g3 := am hbox; have c_g3 := cf1 BK_g3; clear hb hbox hg_) | ((with_reducible refine gate_dst (N := 4) rfl ?_); refine box_event ?hg (N := 4) ?hd (cs := #[.slice Q0 its.length c0, .int .i64 q1, .int .i64 q2, .slice Q3 wh.length c3, .int .i64 q4, .string q5, .slice Q6 ret.length c6]) (t := 31) ?hr ?_; (case hd => rfl); (case hg => rfl); (case hr => first | (go_simp; done) | (go_simp; rfl)); intro g4 hg_ W2 hbox hb; have GE_g4 := ge1 hg_ HB; have NE_g4_g3 := ne1 hg_ BK_g3; have NE_g3_g4 := ne2 NE_g4_g3; replace HB := bs HB hb; (try clear c_g3); replace BK_g3 := bb BK_g3 hb; have c_g3 := cf1 BK_g3; have BK_g4 := am hbox; have c_g4 := cf7 BK_g4; clear hb hbox hg_) | ((with_reducible refine gate_dst (N := 6) rfl ?_); refine box_event ?hg (N := 6) ?hd (cs := #[.slice none 0 0, .slice none 0 0]) (t := 42) ?hr ?_; (case hd => rfl); (case hg => rfl); (case hr => first | (go_simp; done) | (go_simp; rfl)); intro g6 hg_ W3 hbox hb; have GE_g6 := ge1 hg_ HB; have NE_g6_g3 := ne1 hg_ BK_g3; have NE_g3_g6 := ne2 NE_g6_g3; have NE_g6_g4 := ne1 hg_ BK_g4; have NE_g4_g6 := ne2 NE_g6_g4; replace HB := bs HB hb; (try clear c_g3); replace BK_g3 := bb BK_g3 hb; have c_g3 := cf1 BK_g3; (try clear c_g4); replace BK_g4 := bb BK_g4 hb; have c_g4 := cf7 BK_g4; have BK_g6 := am hbox; have c_g6 := cf2 BK_g6; clear hb hbox hg_) | (go_at_call 18; refine (code_runnable Q0 c0 its q1 q2 Q3 c3 wh q4 q5 Q6 c6 ret A c t _ (HG.out.below HB.out) (HQ.out.below HB.out) (Kd.C_below HP.out HB.out) (Nat.le_trans HS.out (by decide))).mono ?_; rintro e W4 ⟨vi, xi, rfl, hro_, hrx_, hb⟩; rw [hr_.out]; have HO := am (Kd.R_lower hro_ (below_size HB.out)); have HX := am hrx_; replace HB := bs HB hb; (try clear c_g3); replace BK_g3 := bb BK_g3 hb; have c_g3 := cf1 BK_g3; (try clear c_g4); replace BK_g4 := bb BK_g4 hb; have c_g4 := cf7 BK_g4; (try clear c_g6); replace BK_g6 := bb BK_g6 hb; have c_g6 := cf2 BK_g6; clear hb hro_ hrx_) | ((with_reducible refine gate_store (t := 42) (p := 6) rfl ?_); refine store_event (t := 42) (p := 6) (v := ?vo_W5_1) (w1 := ?w1_W5_2) ?hg ?ho ?hn ?hr ?_; (case ho => rfl); (case hg => rfl); (case hn => rfl); (case hr => first | (go_simp; done) | (go_simp; rfl)); intro W5 hw; have hk := kb2 hw; replace HB := sb2 HB GE_g6 hw; (try clear c_g3); replace BK_g3 := bk BK_g3 hk NE_g3_g6; have c_g3 := cf1 BK_g3; (try clear c_g4); replace BK_g4 := bk BK_g4 hk NE_g4_g6; have c_g4 := cf7 BK_g4; (try clear c_g6); replace BK_g6 := bp2 BK_g6 hw; have c_g6 := cf2 BK_g6; clear hk hw))
  refine bodyPost_ret (v := .agg #[.slice none 0 0, .slice none 0 0]) (by simp [results, Tryd.results8, go_sem, *]) rfl ⟨_, _, rfl, by rw [HE.out]; exact Kd.R_nil _ _ _ _ _, by rw [HE.out]; exact Kd.S_nil _ _ _ _ _, HB.out⟩
 have hr_ := am hr0
 clear hr0
 have htv := am (rnbV_tree hr_.out)
 have hpos := am (treeV_pos htv.out)
 go_enter Tryd.func8, Tryd.ntmps8
 go_wp2_with (first | ((with_reducible refine gate_dst (N := 3) rfl ?_); refine box_event ?hg (N := 3) ?hd (cs := #[.slice T0 types.length tc]) (t := 24) ?hr ?_; (case hd => rfl); (case hg => rfl); (case hr => first | (go_simp; done) | (go_simp; rfl)); intro g3 hg_ W1 hbox hb; have GE_g3 := ge1 hg_ HB; replace HB := bs HB hb; have BK_g3 := am hbox; have c_g3 := cf1 BK_g3; clear hb hbox hg_) | ((with_reducible refine gate_dst (N := 4) rfl ?_); refine box_event ?hg (N := 4) ?hd (cs := #[.slice Q0 its.length c0, .int .i64 q1, .int .i64 q2, .slice Q3 wh.length c3, .int .i64 q4, .string q5, .slice Q6 ret.length c6]) (t := 31) ?hr ?_; (case hd => rfl); (case hg => rfl); (case hr => first | (go_simp; done) | (go_simp; rfl)); intro g4 hg_ W2 hbox hb; have GE_g4 := ge1 hg_ HB; have NE_g4_g3 := ne1 hg_ BK_g3; have NE_g3_g4 := ne2 NE_g4_g3; replace HB := bs HB hb; (try clear c_g3); replace BK_g3 := bb BK_g3 hb; have c_g3 := cf1 BK_g3; have BK_g4 := am hbox; have c_g4 := cf7 BK_g4; clear hb hbox hg_) | ((with_reducible refine gate_dst (N := 6) rfl ?_); refine box_event ?hg (N := 6) ?hd (cs := #[.slice none 0 0, .slice none 0 0]) (t := 42) ?hr ?_; (case hd => rfl); (case hg => rfl); (case hr => first | (go_simp; done) | (go_simp; rfl)); intro g6 hg_ W3 hbox hb; have GE_g6 := ge1 hg_ HB; have NE_g6_g3 := ne1 hg_ BK_g3; have NE_g3_g6 := ne2 NE_g6_g3; have NE_g6_g4 := ne1 hg_ BK_g4; have NE_g4_g6 := ne2 NE_g6_g4; replace HB := bs HB hb; (try clear c_g3); replace BK_g3 := bb BK_g3 hb; have c_g3 := cf1 BK_g3; (try clear c_g4); replace BK_g4 := bb BK_g4 hb; have c_g4 := cf7 BK_g4; have BK_g6 := am hbox; have c_g6 := cf2 BK_g6; clear hb hbox hg_) | (go_at_call 18; refine (code_runnable Q0 c0 its q1 q2 Q3 c3 wh q4 q5 Q6 c6 ret A c t _ (HG.out.below HB.out) (HQ.out.below HB.out) (Kd.C_below HP.out HB.out) (Nat.le_trans HS.out (by decide))).mono ?_; rintro e W4 ⟨vi, xi, rfl, hro_, hrx_, hb⟩; rw [hr_.out]; have HO := am (Kd.R_lower hro_ (below_size HB.out)); have HX := am hrx_; replace HB := bs HB hb; (try clear c_g3); replace BK_g3 := bb BK_g3 hb; have c_g3 := cf1 BK_g3; (try clear c_g4); replace BK_g4 := bb BK_g4 hb; have c_g4 := cf7 BK_g4; (try clear c_g6); replace BK_g6 := bb BK_g6 hb; have c_g6 := cf2 BK_g6; clear hb hro_ hrx_; have hxi_ := HX.out hr_.out; subst hxi_; clear HX; obtain ⟨gi, ci, rfl, _⟩ := Kd.R_form HO.out (by simp only [itemsV, List.length_map]; exact hpos.out); have HI := am (row_tight HO.out); clear HO; have hli_ : (itemsV its t).length = t.length := List.length_map _; rw [hli_] at HI ⊢; clear hli_) | ((with_reducible refine gate_dst (N := 26) rfl ?_); refine Kd.event_run (v := .map (some W4.heap.size)) (w1 := W4.alloc (.map #[] 0)) rfl (by first | rfl | (go_simp; rfl)) ?_; have hm0 := World.ownsMap_made (H := Unit) W4 Tryd.prog 9 (plainElem Tryd.prog 3); have hb := (Below.refl W4.heap.size W4).alloc (Nat.le_refl _) (.map #[] 0); obtain ⟨gm, hgm⟩ : ∃ gm, gm = W4.heap.size := ⟨_, rfl⟩; have GE_gm := am (show w.heap.size ≤ gm from hgm ▸ below_size HB.out); rw [← hgm] at hm0 ⊢; generalize W4.alloc (.map #[] 0) = W5 at hm0 hb ⊢; have HM := am hm0; clear hm0; replace HB := bs HB hb; (try clear c_g3); replace BK_g3 := bb BK_g3 hb; have c_g3 := cf1 BK_g3; (try clear c_g4); replace BK_g4 := bb BK_g4 hb; have c_g4 := cf7 BK_g4; (try clear c_g6); replace BK_g6 := bb BK_g6 hb; have c_g6 := cf2 BK_g6; replace HI := bR HI hb; clear hb hgm) | ((with_reducible refine gate_dst (N := 28) rfl ?_); refine box_event ?hg (N := 28) ?hd (cs := #[.slice T0 types.length tc, .slice none 0 0, .slice none 0 0, .map (some gm)]) (t := 81) ?hr ?_; (case hd => rfl); (case hg => rfl); (case hr => first | (go_simp; done) | (go_simp; rfl)); intro gc hg_ W6 hbox hb; have GE_gc := ge1 hg_ HB; have NE_gc_g3 := ne1 hg_ BK_g3; have NE_g3_gc := ne2 NE_gc_g3; have NE_gc_g4 := ne1 hg_ BK_g4; have NE_g4_gc := ne2 NE_gc_g4; have NE_gc_g6 := ne1 hg_ BK_g6; have NE_g6_gc := ne2 NE_gc_g6; replace HB := bs HB hb; (try clear c_g3); replace BK_g3 := bb BK_g3 hb; have c_g3 := cf1 BK_g3; (try clear c_g4); replace BK_g4 := bb BK_g4 hb; have c_g4 := cf7 BK_g4; (try clear c_g6); replace BK_g6 := bb BK_g6 hb; have c_g6 := cf2 BK_g6; replace HI := bR HI hb; replace HM := am (map_below HM.out hb); have BK_gc := am hbox; have c_gc := cf4 BK_gc; clear hb hbox hg_) | ((with_reducible refine gate_dst (N := 31) rfl ?_); refine Kd.R_make (Kd.int .i64) (w0 := w) w.heap.size 45 rfl rfl 82 _ _ rfl (t.length : Int) rfl rfl Tryd.underlying82 (.int .i64 0) 8 info45 rfl (by decide) (by decide) 0 (ok := fun _ => True) (okp := fun _ => False) rfl (fun _ h_ => h_.elim) trivial (by omega) ?ml HB.out (below_size HB.out) ?_; (case ml => rw [Int.toNat_natCast]; have := HS.out; omega); intro v1 W8 ho hb hg hat_; rw [Int.toNat_natCast] at ho; obtain ⟨gb, cb, hv1, hge_, _⟩ := Kd.R_form ho (by rw [List.length_replicate]; exact hpos.out); rw [List.length_replicate] at hv1; subst hv1; have HNb := am (row_tight ho); have HBn := am hb; have GF_b := am (show W6.heap.size ≤ gb from by obtain ⟨b_, hb_, hl_⟩ := hat_; simp only [Value.ownBlock] at hb_; injection hb_ with hb_; omega); clear ho hb hat_; replace HB := am (HBn.out); (try clear c_g3); replace BK_g3 := am (blk_grown BK_g3.out hg (by simp)); have c_g3 := cf1 BK_g3; (try clear c_g4); replace BK_g4 := am (blk_grown BK_g4.out hg (by simp)); have c_g4 := cf7 BK_g4; (try clear c_g6); replace BK_g6 := am (blk_grown BK_g6.out hg (by simp)); have c_g6 := cf2 BK_g6; (try clear c_gc); replace BK_gc := am (blk_grown BK_gc.out hg (by simp)); have c_gc := cf4 BK_gc; replace HI := am (Kd.R_grown HI.out hg (fun _ _ => by simp)); replace HM := am (map_heap HM.out (hg.block _ HM.out.lt (by simp))); clear hg HBn hge_))
 clear c_g3 c_g4 c_g6 c_gc
 clear BK_g3 BK_g4
 go_loopw [34] (fun i w' => CRel1 t w (.slice T0 types.length tc) (itemsV its t) gi ci gb cb g6 gc gm i w') (fun i _ => t.length - (intOf i).toNat)
 case atStart => exact ⟨0, rfl, Nat.zero_le _, HI, HNb, HM, HB, BK_g6, BK_gc⟩
 case round =>
  clear HB BK_g6 BK_gc HI HNb HM
  obtain ⟨k, rfl, hk, HI, HNb, HM, HB, BK_g6, BK_gc⟩ := hrel
  have HK := am hk
  clear hk
  have c_g6 := cf2 BK_g6
  have c_gc := cf4 BK_gc
  by_cases hlt : k < t.length
  ·obtain ⟨ad, rfl, b0, b1, b2, b3, b4, b5⟩ := at_T61 HP.out (k : Int) (by omega) (by omega)
   rw [Int.toNat_natCast] at b0 b1 b2 b3 b4 b5
   obtain ⟨ins, hins⟩ : ∃ i, i = rd_T61 t (k : Int) := ⟨_, rfl⟩
   have hok := treeV_ok htv.out k hlt
   rw [← hins] at b0 b1 b2 b3 b4 b5 hok
   have HI0 := am hins
   clear hins
   obtain ⟨a0, a1, a2, a3, a4, a5⟩ := ins
   have Hok := am hok
   clear hok
   have p0 := pw_cell_below HB.out b0
   have p1 := pw_cell_below HB.out b1
   have p2 := pw_cell_below HB.out b2
   have p3 := pw_cell_below HB.out b3
   have p4 := pw_cell_below HB.out b4
   have p5 := pw_cell_below HB.out b5
   clear b0 b1 b2 b3 b4 b5
   have eK : wrap64 ((k : Int) + 1) = (k : Int) + 1 := IntWalk.wrap64_in _ (by have := HS.out; omega)
   by_cases h25 : a0 = 25
   ·have HE := am (show beK t (k + 1) = (beK t k).set a4.toNat 25 from by rw [beK, ← HI0.out, beS, if_pos (show a0 = 25 from h25)])
    have e25 : (a0 == 25) = true := by simpa using h25
    obtain ⟨nA0, nAk⟩ := Hok.out.2.1 (show 12 ≤ a0 by omega)
    have nA0 : 0 ≤ a4 := nA0
    have nAk : a4 < (k : Int) := nAk
    have nAl : a4 < (t.length : Int) := by omega
    clear h25
    go_wp2_with (first | ((with_reducible refine gate_dst (N := 12) rfl ?_); refine box_event ?hg (N := 12) ?hd (cs := #[.int .i64 0, .int .i64 0, .string ByteArray.empty, .string ByteArray.empty, .int .i64 0, .int .i64 0]) (t := 61) ?hr ?_; (case hd => rfl); (case hg => rfl); (case hr => first | (go_simp; done) | (go_simp; rfl)); intro g12 hg_ W1 hbox hb; have GE_g12 := ge1 hg_ HB; have NE_g12_g6 := ne1 hg_ BK_g6; have NE_g6_g12 := ne2 NE_g12_g6; have NE_g12_gc := ne1 hg_ BK_gc; have NE_gc_g12 := ne2 NE_g12_gc; replace HB := bs HB hb; (try clear c_g6); replace BK_g6 := bb BK_g6 hb; have c_g6 := cf2 BK_g6; (try clear c_gc); replace BK_gc := bb BK_gc hb; have c_gc := cf4 BK_gc; replace HI := bR HI hb; replace HNb := bR HNb hb; replace HM := am (map_below HM.out hb); have BK_g12 := am hbox; have c_g12 := cf6 BK_g12; clear hb hbox hg_) | ((with_reducible refine gate_store (t := 61) (p := 12) rfl ?_); refine store_event (t := 61) (p := 12) (v := ?vo_W2_3) (w1 := ?w1_W2_4) ?hg ?ho ?hn ?hr ?_; (case ho => rfl); (case hg => rfl); (case hn => rfl); (case hr => first | (go_simp; done) | (go_simp; rfl)); intro W2 hw; have hk := kb6 hw; replace HI := am (Kd.R_mono (Kd.R_keep (Kd.R_types HI.out BK_g12.out (by decide)) hk (fun _ h_ => h_.2)) (fun _ h_ => h_.1)); replace HNb := am (Kd.R_mono (Kd.R_keep (Kd.R_types HNb.out BK_g12.out (by decide)) hk (fun _ h_ => h_.2)) (fun _ h_ => h_.1)); replace HM := am (map_keep HM.out BK_g12.out hk); replace HB := sb6 HB GE_g12 hw; (try clear c_g6); replace BK_g6 := bk BK_g6 hk NE_g6_g12; have c_g6 := cf2 BK_g6; (try clear c_gc); replace BK_gc := bk BK_gc hk NE_gc_g12; have c_gc := cf4 BK_gc; (try clear c_g12); replace BK_g12 := bp6 BK_g12 hw; have c_g12 := cf6 BK_g12; clear hk hw) | ((with_reducible refine gate_store (t := 45) (p := 45) rfl ?_); refine Kd.R_store (Kd.int .i64) (w0 := w) w.heap.size rfl rfl 45 _ _ rfl 45 (o' := (a4).toNat) (a4) 0 (beK t k) 25 (.int .i64 25) [.int .i64 25] [.int .i64 ((beK t k).getD (a4).toNat 0)] (fun q_ => q_ = gb) (fun _ => False) ?zzsa ?zzso rfl rfl ?zzst ?zzs1 HNb.out ?zzs0 ?zzsi rfl ?zzsc ?zzsj ?zzsm (fun _ h_ => h_.elim) HB.out ?_; (case zzsa => rfl); (case zzso => show (a4).toNat = (a4).toNat * 1 + 0; omega); (case zzst => kernel_rfl); (case zzs1 => intro q_ hq_; simp at hq_; rcases hq_ with rfl; rfl); (case zzs0 => omega); (case zzsi => omega); (case zzsc => intro j u hu; rw [show (a4).toNat * (Kd.int .i64).sz + j = (a4).toNat + j from by show (a4).toNat * 1 + j = _; omega]; exact int_row_at HNb.out _ (by omega) j u hu); (case zzsj => exact Nat.le_refl _); (case zzsm => exact rfl); intro W3 ho hb hg; have HNq := HNb; clear HNb; have HNb := am ho; have HBn := am hb; clear ho hb; replace HB := am (HBn.out); (try clear c_g6); replace BK_g6 := am (blk_grown BK_g6.out hg (Kd.R_ne HNq.out BK_g6.out (by decide))); have c_g6 := cf2 BK_g6; (try clear c_gc); replace BK_gc := am (blk_grown BK_gc.out hg (Kd.R_ne HNq.out BK_gc.out (by decide))); have c_gc := cf4 BK_gc; (try clear c_g12); replace BK_g12 := am (blk_grown BK_g12.out hg (Kd.R_ne HNq.out BK_g12.out (by decide))); have c_g12 := cf6 BK_g12; replace HI := am (row_over HI.out hg (rows_ne HI.out HNq.out (by decide))); replace HM := am (map_grown HM.out hg (fun e_ => by obtain ⟨_, h_⟩ := Kd.R_typed HNq.out _ rfl; exact map_ne HM.out h_ e_)); clear hg HBn HNq))
    go_roundw
    case rel => first
     | exact ⟨k + 1, by first | rfl | (rw [eK]; rfl), hlt, HI, ⟨by rw [HE.out]; exact HNb.out⟩, HM, HB, BK_g6, BK_gc⟩
     | (refine ⟨_, _, ?_, rfl, rfl⟩; exact ⟨k + 1, rfl, hlt, HI, ⟨by rw [HE.out]; exact HNb.out⟩, HM, HB, BK_g6, BK_gc⟩)
    case measure => first | exact mu2_ hlt (Int.lt_succ _) | exact mu2_ hlt (by rw [eK]; exact Int.lt_succ _)
   have e25 : (a0 == 25) = false := by simpa using h25
   by_cases h26 : a0 = 26
   ·have HE := am (show beK t (k + 1) = (beK t k).set a4.toNat 26 from by rw [beK, ← HI0.out, beS, if_neg (show ¬ a0 = 25 by omega), if_pos (show a0 = 26 from h26)])
    have e26 : (a0 == 26) = true := by simpa using h26
    obtain ⟨nA0, nAk⟩ := Hok.out.2.1 (show 12 ≤ a0 by omega)
    have nA0 : 0 ≤ a4 := nA0
    have nAk : a4 < (k : Int) := nAk
    have nAl : a4 < (t.length : Int) := by omega
    clear h26 h25
    go_wp2_with (first | ((with_reducible refine gate_dst (N := 12) rfl ?_); refine box_event ?hg (N := 12) ?hd (cs := #[.int .i64 0, .int .i64 0, .string ByteArray.empty, .string ByteArray.empty, .int .i64 0, .int .i64 0]) (t := 61) ?hr ?_; (case hd => rfl); (case hg => rfl); (case hr => first | (go_simp; done) | (go_simp; rfl)); intro g12 hg_ W1 hbox hb; have GE_g12 := ge1 hg_ HB; have NE_g12_g6 := ne1 hg_ BK_g6; have NE_g6_g12 := ne2 NE_g12_g6; have NE_g12_gc := ne1 hg_ BK_gc; have NE_gc_g12 := ne2 NE_g12_gc; replace HB := bs HB hb; (try clear c_g6); replace BK_g6 := bb BK_g6 hb; have c_g6 := cf2 BK_g6; (try clear c_gc); replace BK_gc := bb BK_gc hb; have c_gc := cf4 BK_gc; replace HI := bR HI hb; replace HNb := bR HNb hb; replace HM := am (map_below HM.out hb); have BK_g12 := am hbox; have c_g12 := cf6 BK_g12; clear hb hbox hg_) | ((with_reducible refine gate_store (t := 61) (p := 12) rfl ?_); refine store_event (t := 61) (p := 12) (v := ?vo_W2_5) (w1 := ?w1_W2_6) ?hg ?ho ?hn ?hr ?_; (case ho => rfl); (case hg => rfl); (case hn => rfl); (case hr => first | (go_simp; done) | (go_simp; rfl)); intro W2 hw; have hk := kb6 hw; replace HI := am (Kd.R_mono (Kd.R_keep (Kd.R_types HI.out BK_g12.out (by decide)) hk (fun _ h_ => h_.2)) (fun _ h_ => h_.1)); replace HNb := am (Kd.R_mono (Kd.R_keep (Kd.R_types HNb.out BK_g12.out (by decide)) hk (fun _ h_ => h_.2)) (fun _ h_ => h_.1)); replace HM := am (map_keep HM.out BK_g12.out hk); replace HB := sb6 HB GE_g12 hw; (try clear c_g6); replace BK_g6 := bk BK_g6 hk NE_g6_g12; have c_g6 := cf2 BK_g6; (try clear c_gc); replace BK_gc := bk BK_gc hk NE_gc_g12; have c_gc := cf4 BK_gc; (try clear c_g12); replace BK_g12 := bp6 BK_g12 hw; have c_g12 := cf6 BK_g12; clear hk hw) | ((with_reducible refine gate_store (t := 45) (p := 51) rfl ?_); refine Kd.R_store (Kd.int .i64) (w0 := w) w.heap.size rfl rfl 45 _ _ rfl 45 (o' := (a4).toNat) (a4) 0 (beK t k) 26 (.int .i64 26) [.int .i64 26] [.int .i64 ((beK t k).getD (a4).toNat 0)] (fun q_ => q_ = gb) (fun _ => False) ?zzsa ?zzso rfl rfl ?zzst ?zzs1 HNb.out ?zzs0 ?zzsi rfl ?zzsc ?zzsj ?zzsm (fun _ h_ => h_.elim) HB.out ?_; (case zzsa => rfl); (case zzso => show (a4).toNat = (a4).toNat * 1 + 0; omega); (case zzst => kernel_rfl); (case zzs1 => intro q_ hq_; simp at hq_; rcases hq_ with rfl; rfl); (case zzs0 => omega); (case zzsi => omega); (case zzsc => intro j u hu; rw [show (a4).toNat * (Kd.int .i64).sz + j = (a4).toNat + j from by show (a4).toNat * 1 + j = _; omega]; exact int_row_at HNb.out _ (by omega) j u hu); (case zzsj => exact Nat.le_refl _); (case zzsm => exact rfl); intro W3 ho hb hg; have HNq := HNb; clear HNb; have HNb := am ho; have HBn := am hb; clear ho hb; replace HB := am (HBn.out); (try clear c_g6); replace BK_g6 := am (blk_grown BK_g6.out hg (Kd.R_ne HNq.out BK_g6.out (by decide))); have c_g6 := cf2 BK_g6; (try clear c_gc); replace BK_gc := am (blk_grown BK_gc.out hg (Kd.R_ne HNq.out BK_gc.out (by decide))); have c_gc := cf4 BK_gc; (try clear c_g12); replace BK_g12 := am (blk_grown BK_g12.out hg (Kd.R_ne HNq.out BK_g12.out (by decide))); have c_g12 := cf6 BK_g12; replace HI := am (row_over HI.out hg (rows_ne HI.out HNq.out (by decide))); replace HM := am (map_grown HM.out hg (fun e_ => by obtain ⟨_, h_⟩ := Kd.R_typed HNq.out _ rfl; exact map_ne HM.out h_ e_)); clear hg HBn HNq))
    go_roundw
    case rel => first
     | exact ⟨k + 1, by first | rfl | (rw [eK]; rfl), hlt, HI, ⟨by rw [HE.out]; exact HNb.out⟩, HM, HB, BK_g6, BK_gc⟩
     | (refine ⟨_, _, ?_, rfl, rfl⟩; exact ⟨k + 1, rfl, hlt, HI, ⟨by rw [HE.out]; exact HNb.out⟩, HM, HB, BK_g6, BK_gc⟩)
    case measure => first | exact mu2_ hlt (Int.lt_succ _) | exact mu2_ hlt (by rw [eK]; exact Int.lt_succ _)
   have HE := am (show beK t (k + 1) = beK t k from by rw [beK, ← HI0.out, beS, if_neg (show ¬ a0 = 25 from h25), if_neg (show ¬ a0 = 26 from h26)])
   have e26 : (a0 == 26) = false := by simpa using h26
   clear h25 h26
   go_wp2_with (first | ((with_reducible refine gate_dst (N := 12) rfl ?_); refine box_event ?hg (N := 12) ?hd (cs := #[.int .i64 0, .int .i64 0, .string ByteArray.empty, .string ByteArray.empty, .int .i64 0, .int .i64 0]) (t := 61) ?hr ?_; (case hd => rfl); (case hg => rfl); (case hr => first | (go_simp; done) | (go_simp; rfl)); intro g12 hg_ W1 hbox hb; have GE_g12 := ge1 hg_ HB; have NE_g12_g6 := ne1 hg_ BK_g6; have NE_g6_g12 := ne2 NE_g12_g6; have NE_g12_gc := ne1 hg_ BK_gc; have NE_gc_g12 := ne2 NE_g12_gc; replace HB := bs HB hb; (try clear c_g6); replace BK_g6 := bb BK_g6 hb; have c_g6 := cf2 BK_g6; (try clear c_gc); replace BK_gc := bb BK_gc hb; have c_gc := cf4 BK_gc; replace HI := bR HI hb; replace HNb := bR HNb hb; replace HM := am (map_below HM.out hb); have BK_g12 := am hbox; have c_g12 := cf6 BK_g12; clear hb hbox hg_) | ((with_reducible refine gate_store (t := 61) (p := 12) rfl ?_); refine store_event (t := 61) (p := 12) (v := ?vo_W2_7) (w1 := ?w1_W2_8) ?hg ?ho ?hn ?hr ?_; (case ho => rfl); (case hg => rfl); (case hn => rfl); (case hr => first | (go_simp; done) | (go_simp; rfl)); intro W2 hw; have hk := kb6 hw; replace HI := am (Kd.R_mono (Kd.R_keep (Kd.R_types HI.out BK_g12.out (by decide)) hk (fun _ h_ => h_.2)) (fun _ h_ => h_.1)); replace HNb := am (Kd.R_mono (Kd.R_keep (Kd.R_types HNb.out BK_g12.out (by decide)) hk (fun _ h_ => h_.2)) (fun _ h_ => h_.1)); replace HM := am (map_keep HM.out BK_g12.out hk); replace HB := sb6 HB GE_g12 hw; (try clear c_g6); replace BK_g6 := bk BK_g6 hk NE_g6_g12; have c_g6 := cf2 BK_g6; (try clear c_gc); replace BK_gc := bk BK_gc hk NE_gc_g12; have c_gc := cf4 BK_gc; (try clear c_g12); replace BK_g12 := bp6 BK_g12 hw; have c_g12 := cf6 BK_g12; clear hk hw))
   go_roundw
   case rel => first
    | exact ⟨k + 1, by first | rfl | (rw [eK]; rfl), hlt, HI, ⟨by rw [HE.out]; exact HNb.out⟩, HM, HB, BK_g6, BK_gc⟩
    | (refine ⟨_, _, ?_, rfl, rfl⟩; exact ⟨k + 1, rfl, hlt, HI, ⟨by rw [HE.out]; exact HNb.out⟩, HM, HB, BK_g6, BK_gc⟩)
   case measure => first | exact mu2_ hlt (Int.lt_succ _) | exact mu2_ hlt (by rw [eK]; exact Int.lt_succ _)
  have hk := HK.out
  clear HK
  obtain rfl : k = t.length := by omega
  clear hk hlt
  have eD : decide ((t.length : Int) < (t.length : Int)) = false := decide_eq_false (by omega)
  have HIold := HI
  go_wp2_with (first | ((with_reducible refine gate_dst (N := 55) rfl ?_); refine Kd.R_make (Kd.int .i64) (w0 := w) w.heap.size 3 rfl rfl 48 _ _ rfl (t.length : Int) rfl rfl Tryd.underlying48 (.int .i64 0) 8 info3 rfl (by decide) (by decide) 0 (ok := fun _ => True) (okp := fun _ => False) rfl (fun _ h_ => h_.elim) trivial (by omega) ?ml HB.out (below_size HB.out) ?_; (case ml => rw [Int.toNat_natCast]; have := HS.out; omega); intro v1 W1 ho hb hg hat_; rw [Int.toNat_natCast] at ho; obtain ⟨gj, cj, hv1, hge_, _⟩ := Kd.R_form ho (by rw [List.length_replicate]; exact hpos.out); rw [List.length_replicate] at hv1; subst hv1; have HNj := am (row_tight ho); have HBn := am hb; have GF_j := am (show wr.heap.size ≤ gj from by obtain ⟨b_, hb_, hl_⟩ := hat_; simp only [Value.ownBlock] at hb_; injection hb_ with hb_; omega); clear ho hb hat_; replace HB := am (HBn.out); (try clear c_g6); replace BK_g6 := am (blk_grown BK_g6.out hg (by simp)); have c_g6 := cf2 BK_g6; (try clear c_gc); replace BK_gc := am (blk_grown BK_gc.out hg (by simp)); have c_gc := cf4 BK_gc; replace HI := am (Kd.R_grown HI.out hg (fun _ _ => by simp)); replace HNb := am (Kd.R_grown HNb.out hg (fun _ _ => by simp)); replace HM := am (map_heap HM.out (hg.block _ HM.out.lt (by simp))); clear hg HBn hge_))
  clear c_g6 c_gc
  have Nij := am (show gi ≠ gj from fun e => by have := Kd.R_lt HIold.out gi rfl; have := GF_j.out; omega)
  clear HIold
  have NiC := am (show gi ≠ gc from (row_blk HI.out BK_gc.out (by decide)).symm)
  have NjC := am (show gj ≠ gc from (row_blk HNj.out BK_gc.out (by decide)).symm)
  have NbC := am (show gb ≠ gc from (row_blk HNb.out BK_gc.out (by decide)).symm)
  have Ni6 := am (show gi ≠ g6 from (row_blk HI.out BK_g6.out (by decide)).symm)
  have Nj6 := am (show gj ≠ g6 from (row_blk HNj.out BK_g6.out (by decide)).symm)
  have N6C := am (show g6 ≠ gc from blk_ne BK_g6.out BK_gc.out (by decide))
  have N6M := am (show g6 ≠ gm from (map_ne HM.out BK_g6.out).symm)
  have NiM := am (show gi ≠ gm from fun e => by obtain ⟨_, h_⟩ := Kd.R_typed HI.out _ rfl; exact map_ne HM.out h_ e.symm)
  have NjM := am (show gj ≠ gm from fun e => by obtain ⟨_, h_⟩ := Kd.R_typed HNj.out _ rfl; exact map_ne HM.out h_ e.symm)
  have NbM := am (show gb ≠ gm from fun e => by obtain ⟨_, h_⟩ := Kd.R_typed HNb.out _ rfl; exact map_ne HM.out h_ e.symm)
  have Nbj := am (rows_ne HNb.out HNj.out (by decide))
  obtain ⟨b, hb_⟩ : ∃ b, b = W1.heap.size := ⟨_, rfl⟩
  have GB := am (show w.heap.size ≤ b from hb_ ▸ below_size HB.out)
  have Li := am (show gi < b from hb_ ▸ Kd.R_lt HI.out gi rfl)
  have Lj := am (show gj < b from hb_ ▸ Kd.R_lt HNj.out gj rfl)
  have Lb := am (show gb < b from hb_ ▸ Kd.R_lt HNb.out gb rfl)
  have L6 := am (show g6 < b from hb_ ▸ blk_lt BK_g6.out)
  have HST := am (show CompSt W1 b gc gm (.slice T0 types.length tc) (cpK types (itemsV its t) t 0).1 from ⟨_, _, .map [], { cells := BK_gc.out, code := Kd.R_nil _ _ _ _ _, cols := Kd.S_nil _ _ _ _ _, map := HM.out, names := MapIs.nil, len := rfl, gcb := hb_ ▸ blk_lt BK_gc.out, gmb := hb_ ▸ HM.out.lt, size := Nat.le_of_eq hb_ }⟩)
  have GEC := am (show w.heap.size ≤ gc from GE_gc.out)
  clear HM BK_gc hb_
  go_loopw [58] (fun i w' => CRel2 types t w (.slice T0 types.length tc) (itemsV its t) gi ci gj cj gb cb g6 gc gm b i w') (fun i _ => t.length - (intOf i).toNat)
  case atStart => exact ⟨0, rfl, Nat.zero_le _, HI, HNj, HNb, HST, HB, BK_g6⟩
  case round =>
   clear HB BK_g6 HI HNb HNj HST
   obtain ⟨k, rfl, hk, HI, HNj, HNb, HST, HB, BK_g6⟩ := hrel
   have HK := am hk
   clear hk
   by_cases hlt : k < t.length
   ·obtain ⟨ad, rfl, b0, b1, b2, b3, b4, b5⟩ := at_T61 HP.out (k : Int) (by omega) (by omega)
    rw [Int.toNat_natCast] at b0 b1 b2 b3 b4 b5
    obtain ⟨ins, hins⟩ : ∃ i, i = rd_T61 t (k : Int) := ⟨_, rfl⟩
    have hok := treeV_ok htv.out k hlt
    rw [← hins] at b0 b1 b2 b3 b4 b5 hok
    have HI0 := am hins
    clear hins
    obtain ⟨a0, a1, a2, a3, a4, a5⟩ := ins
    have Hok := am hok
    clear hok
    have p0 := pw_cell_below HB.out b0
    have p1 := pw_cell_below HB.out b1
    have p2 := pw_cell_below HB.out b2
    have p3 := pw_cell_below HB.out b3
    have p4 := pw_cell_below HB.out b4
    have p5 := pw_cell_below HB.out b5
    clear b0 b1 b2 b3 b4 b5
    have eK : wrap64 ((k : Int) + 1) = (k : Int) + 1 := IntWalk.wrap64_in _ (by have := HS.out; omega)
    have BND := am (cpK_bound (types := types) (items := itemsV its t) htv.out (k := k) (by omega))
    obtain ⟨st, hst⟩ : ∃ st, st = (cpK types (itemsV its t) t k).1 := ⟨_, rfl⟩
    obtain ⟨jm, hjm⟩ : ∃ jm, jm = (cpK types (itemsV its t) t k).2 := ⟨_, rfl⟩
    obtain ⟨im, him⟩ : ∃ im, im = (itemsV its t).getD k 0 := ⟨_, rfl⟩
    have HNX := am (show cpK types (itemsV its t) t (k + 1) = endS (beK t t.length) k (toS ⟨a0, a1, a2, a3, a4, a5⟩ jm (nodeS types ⟨a0, a1, a2, a3, a4, a5⟩ im st)) jm from by rw [cpK, ← HI0.out, hst, hjm, him])
    have HJL := am (show jm.length = t.length from by rw [hjm]; exact (cpK_len types (itemsV its t) t k (by omega)).2.2)
    have JMP := am (fun i hi hb => (hjm ▸ hst ▸ cpK_jump (types := types) (items := itemsV its t) k (by omega) i hi hb : 0 ≤ jm.getD i 0 ∧ jm.getD i 0 < (st.code.length : Int)))
    rw [← hst] at HST BND
    rw [← hjm] at HNj
    have HIM := am him
    clear hst hjm him
    have i0 : wr.cell? ⟨gi, k, none⟩ = some (.int .i64 im) := by rw [HIM.out]; exact (int_at HI.out k hlt).1
    have HBr := am (Below.refl wr.heap.size wr)
    have HA3 := am (show a3.size ≤ 9223372036854775807 from (by have h_ := treeV_f3 htv.out hlt; rw [← HI0.out] at h_; exact h_))
    go_wp2_with (first | ((with_reducible refine gate_dst (N := 15) rfl ?_); refine box_event ?hg (N := 15) ?hd (cs := #[.int .i64 0, .int .i64 0, .string ByteArray.empty, .string ByteArray.empty, .int .i64 0, .int .i64 0]) (t := 61) ?hr ?_; (case hd => rfl); (case hg => rfl); (case hr => first | (go_simp; done) | (go_simp; rfl)); intro g15 hg_ W1 hbox hb; have GE_g15 := ge1 hg_ HBr; replace HBr := bs HBr hb; have BK_g15 := am hbox; have c_g15 := cf6 BK_g15; clear hb hbox hg_; (try clear i0); have i0 : W1.cell? ⟨gi, k, none⟩ = some (.int .i64 im) := (by rw [HIM.out]; exact (int_at (Kd.R_below HI.out HBr.out) k hlt).1)) | ((with_reducible refine gate_store (t := 61) (p := 15) rfl ?_); refine store_event (t := 61) (p := 15) (v := ?vo_W2_9) (w1 := ?w1_W2_10) ?hg ?ho ?hn ?hr ?_; (case ho => rfl); (case hg => rfl); (case hn => rfl); (case hr => first | (go_simp; done) | (go_simp; rfl)); intro W2 hw; have hk := kb6 hw; replace HBr := sb6 HBr GE_g15 hw; (try clear c_g15); replace BK_g15 := bp6 BK_g15 hw; have c_g15 := cf6 BK_g15; clear hk hw; (try clear i0); have i0 : W2.cell? ⟨gi, k, none⟩ = some (.int .i64 im) := (by rw [HIM.out]; exact (int_at (Kd.R_below HI.out HBr.out) k hlt).1)))
    refine start_ (n := 7) (S := fun w' => w'.cell? ⟨g15, 0, none⟩ = some (.int .i64 a0) ∧ w'.cell? ⟨g15, 1, none⟩ = some (.int .i64 a1) ∧ w'.cell? ⟨g15, 2, none⟩ = some (.string a2) ∧ w'.cell? ⟨g15, 3, none⟩ = some (.string a3) ∧ w'.cell? ⟨g15, 4, none⟩ = some (.int .i64 a4) ∧ w'.cell? ⟨g15, 5, none⟩ = some (.int .i64 a5) ∧ w'.cell? ⟨gi, k, none⟩ = some (.int .i64 im)) (ds := [6]) #[false, false, false, false, false, false, false] (by kernel_rfl) rfl rfl ⟨c_g15.1, c_g15.2.2.1, c_g15.2.2.2.2.1, c_g15.2.2.2.2.2.2.1, c_g15.2.2.2.2.2.2.2.2.1, c_g15.2.2.2.2.2.2.2.2.2.2.1, i0⟩ (fun hHeld => ?_)
    refine with_tabW comp_a.tab comp_a.bits (fun HT_ HW_ => ?_)
    clear i0 c_g15
    have BK_n := am (blk_drew BK_g15.out)
    have HBn := am (below_drew HBr.out)
    clear BK_g15 HBr
    have BK_g15 := BK_n
    have HBr := HBn
    clear BK_n HBn
    generalize W2.drew = W3 at hHeld BK_g15 HBr ⊢
    refine pure_ (i := 0) (N := some 63) (v := ?_) (a' := ?_) #[true, false, false, false, false, false, false] rfl rfl (any_of HT_.out (by kernel_rfl)) (fun _ _ _ h => h) (Or.inl ⟨by rfl, ?_⟩) ?_ ?_
    rotate_left
    ·intro w'
     go_simp
     with_reducible rfl
    rotate_left
    ·simp only [Act.put, List.setIfInBounds_toArray, List.set_cons_zero, List.set_cons_succ, i64_w]
     rfl
    refine take_ (i := 1) (N := some 64) (v := ?_) (a' := ?_) #[true, true, false, false, false, false, false] rfl rfl (take_ofW HT_.out HW_.out (by kernel_rfl)) (fun _ _ _ h => h) (Or.inl ⟨by rfl, ?_⟩) hHeld ?_ ?_
    rotate_left
    ·rintro w' ⟨s0, s1, s2, s3, s4, s5, s6⟩
     go_simp
     with_reducible rfl
    rotate_left
    ·simp only [Act.put, List.setIfInBounds_toArray, List.set_cons_zero, List.set_cons_succ, i64_w]
     rfl
    refine pure_ (i := 2) (N := some 65) (v := ?_) (a' := ?_) #[true, true, true, false, false, false, false] rfl rfl (any_of HT_.out (by kernel_rfl)) (fun _ _ _ h => h) (Or.inl ⟨by rfl, ?_⟩) ?_ ?_
    rotate_left
    ·intro w'
     go_simp
     with_reducible rfl
    rotate_left
    ·simp only [Act.put, List.setIfInBounds_toArray, List.set_cons_zero, List.set_cons_succ, i64_w]
     rfl
    refine pure_ (i := 3) (N := some 66) (v := ?_) (a' := ?_) #[true, true, true, true, false, false, false] rfl rfl (any_of HT_.out (by kernel_rfl)) (fun _ _ _ h => h) (Or.inl ⟨by rfl, ?_⟩) ?_ ?_
    rotate_left
    ·intro w'
     go_simp
     with_reducible rfl
    rotate_left
    ·simp only [Act.put, List.setIfInBounds_toArray, List.set_cons_zero, List.set_cons_succ, i64_w]
     rfl
    refine pure_ (i := 4) (N := some 67) (v := ?_) (a' := ?_) #[true, true, true, true, true, false, false] rfl rfl (any_of HT_.out (by kernel_rfl)) (fun _ _ _ h => h) (Or.inl ⟨by rfl, ?_⟩) ?_ ?_
    rotate_left
    ·intro w'
     go_simp
     with_reducible rfl
    rotate_left
    ·simp only [Act.put, List.setIfInBounds_toArray, List.set_cons_zero, List.set_cons_succ, i64_w]
     rfl
    refine take_ (i := 5) (N := some 68) (v := ?_) (a' := ?_) #[true, true, true, true, true, true, false] rfl rfl (take_ofW HT_.out HW_.out (by kernel_rfl)) (fun _ _ _ h => h) (Or.inl ⟨by rfl, ?_⟩) hHeld ?_ ?_
    rotate_left
    ·rintro w' ⟨s0, s1, s2, s3, s4, s5, s6⟩
     go_simp
     with_reducible rfl
    rotate_left
    ·simp only [Act.put, List.setIfInBounds_toArray, List.set_cons_zero, List.set_cons_succ, i64_w]
     rfl
    refine last_ (i := 6) (N := some 69) #[true, true, true, true, true, true, true] rfl rfl (one_of HT_.out (by kernel_rfl)) (by decide) (fun K hK => ?_)
    refine goes_ Tryd.func19 (by kernel_rfl) rfl #[.pointer (some ⟨gc, 0, none⟩), .agg #[.int .i64 a0, .int .i64 a1, .string a2, .string a3, .int .i64 a4, .int .i64 a5], .int .i64 im] (by rfl) rfl rfl (by first | rfl | (simp [Act.eval]; done) | (go_simp; done) | simp [Act.eval, *]) ?_
    refine (comp_node W3 b gc gm T0 tc types st a0 a1 a2 a3 a4 a5 im (HST.out.chg HBr.out) (Kd.C_below HTY.out (below_step HB.out HBr.out)) HTC.out HA3.out HTS.out (by have := BND.out; have := HS.out; omega) (by have := BND.out; have := HS.out; omega) Hok.out.1.1 Hok.out.1.2).mono ?_
    rintro e W4 ⟨rfl, hs_, hc_⟩
    have HS4 := am hs_
    have HC4 := am hc_
    clear hs_ hc_
    have NE := compSt_ne HST.out
    have N15C := am (show g15 ≠ gc from by have := GE_g15.out; omega)
    have N15M := am (show g15 ≠ gm from by have := GE_g15.out; omega)
    clear NE
    have BK4 := am (blk_ins BK_g15.out HC4.out N15C.out N15M.out (by decide))
    have BK64 := am (blk_ins (blk_below BK_g6.out HBr.out) HC4.out N6C.out N6M.out (by decide))
    have HI4 := am (row_ins (Kd.R_below HI.out HBr.out) HC4.out NiC.out NiM.out Li.out)
    have HNj4 := am (row_ins (Kd.R_below HNj.out HBr.out) HC4.out NjC.out NjM.out Lj.out)
    have HNb4 := am (row_ins (Kd.R_below HNb.out HBr.out) HC4.out NbC.out NbM.out Lb.out)
    have HB4 := am (below_ins (below_step HB.out HBr.out) HC4.out GB.out GEC.out GE_gm.out)
    have GE15 := am (show w.heap.size ≤ g15 from Nat.le_trans (below_size HB.out) GE_g15.out)
    clear HB HBr BK_g15 BK_g6 HI HNj HNb HST HC4
    refine ⟨_, rfl, ?_⟩
    refine hK.out _ _ ?_
    clear hK K
    refine done_ (done_of HT_.out (by kernel_rfl)) ?_
    have c0 : W4.cell? ⟨g15, 0, none⟩ = some (.int .i64 a0) := (blk_cell BK4.out 0).trans rfl
    have c4 : W4.cell? ⟨g15, 4, none⟩ = some (.int .i64 a4) := (blk_cell BK4.out 4).trans rfl
    obtain ⟨bv, hbv⟩ : ∃ bv, bv = (beK t t.length).getD k 0 := ⟨_, rfl⟩
    have HBV := am hbv
    clear hbv
    have j0 : W4.cell? ⟨gb, k, none⟩ = some (.int .i64 bv) := by rw [HBV.out]; exact (int_at HNb4.out k hlt).1
    obtain ⟨st2, hst2⟩ : ∃ st2, st2 = nodeS types ⟨a0, a1, a2, a3, a4, a5⟩ im st := ⟨_, rfl⟩
    rw [← hst2] at HS4 HNX
    have HL2 := am (show st2.code.length = st.code.length + 1 from by rw [hst2]; exact nodeS_clen _ _ _ _)
    clear hst2
    by_cases hop : a0 = 25 ∨ a0 = 26
    ·obtain ⟨nA0, nAk⟩ := Hok.out.2.1 (show 12 ≤ a0 by omega)
     have nA0 : 0 ≤ a4 := nA0
     have nAk : a4 < (k : Int) := nAk
     obtain ⟨an, rfl⟩ : ∃ an : Nat, a4 = (an : Int) := ⟨a4.toNat, by omega⟩
     have nan : an < k := by omega
     have nanl : an < t.length := by omega
     have HBE := am (beK_op (t := t) (k := k) hlt (by rw [← HI0.out]; exact hop) (by rw [← HI0.out]; show ((an : Nat) : Int).toNat < t.length; omega))
     obtain ⟨jv, hjv⟩ : ∃ jv, jv = jm.getD an 0 := ⟨_, rfl⟩
     have hj01 : 0 ≤ jv ∧ jv < (st.code.length : Int) := by
      rw [hjv]
      refine JMP.out an nan ?_
      have h_ := HBE.out
      rw [← HI0.out] at h_
      have h_ : (beK t t.length).getD an 0 = 25 ∨ (beK t t.length).getD an 0 = 26 := h_
      omega
     have HJV := am hjv
     clear hjv
     obtain ⟨jn, rfl⟩ : ∃ jn : Nat, jv = (jn : Int) := ⟨jv.toNat, by omega⟩
     have njn : jn < st2.code.length := by have := HL2.out; omega
     have HTO := am (show toS ⟨a0, a1, a2, a3, (an : Int), a5⟩ jm st2 = ⟨st2.code.set jn ⟨(rd_T47 st2.code (jn : Int)).f0, (rd_T47 st2.code (jn : Int)).f1, (rd_T47 st2.code (jn : Int)).f2, (rd_T47 st2.code (jn : Int)).f3, (st2.code.length : Int)⟩, st2.cols, st2.names⟩ from by rw [toS, if_pos hop]; simp only [Int.toNat_natCast, ← HJV.out])
     obtain ⟨vc, vl, D, hp⟩ := HS4.out
     obtain ⟨gk, ck, hvk, _⟩ := Kd.R_form hp.code (by omega)
     subst hvk
     have HPP := am hp
     clear hp
     have HJN := am njn
     have z0 : W4.cell? ⟨gj, an, none⟩ = some (.int .i64 (jn : Int)) := by rw [HJV.out]; exact (int_at HNj4.out an nanl).1
     have q1 : W4.cell? ⟨gc, 1, none⟩ = some (.slice (some ⟨gk, 0, none⟩) st2.code.length ck) := (blk_cell HPP.out.cells 1).trans rfl
     have nI1 : (an : Int) < (t.length : Int) := by omega
     have nI2 : (jn : Int) < (st2.code.length : Int) := by omega
     have nI3 : (0 : Int) ≤ (jn : Int) := by omega
     have eOP : ((a0 == 25) = true ∨ ((a0 == 25) = false ∧ (a0 == 26) = true)) := by
      by_cases h : a0 = 25
      ·exact .inl (by simpa using h)
      exact .inr ⟨by simpa using h, by simp; omega⟩
     clear hop hj01 nan nanl njn nA0 nAk
     rcases eOP with e25 | ⟨e25, e26⟩
     all_goals
      go_wp2
      refine start_ (n := 19) (S := fun w' => w'.cell? ⟨g15, 4, none⟩ = some (.int .i64 (an : Int)) ∧ w'.cell? ⟨gj, an, none⟩ = some (.int .i64 (jn : Int)) ∧ w'.cell? ⟨gc, 1, none⟩ = some (.slice (some ⟨gk, 0, none⟩) st2.code.length ck)) (ds := [18]) #[false, false, false, false, false, false, false, false, false, false, false, false, false, false, false, false, false, false, false] (by kernel_rfl) rfl rfl ⟨c4, z0, q1⟩ (fun hHeld => ?_)
      refine with_tabW comp_b.tab comp_b.bits (fun HT_ HW_ => ?_)
      have BK5 := am (blk_drew BK4.out)
      have BK65 := am (blk_drew BK64.out)
      have HI5 := am (Kd.R_drew HI4.out)
      have HNj5 := am (Kd.R_drew HNj4.out)
      have HNb5 := am (Kd.R_drew HNb4.out)
      have HB5 := am (below_drew HB4.out)
      have HP5 := am (HPP.out.chg (below_drew1 (Below.refl _ _)))
      clear BK4 BK64 HI4 HNj4 HNb4 HB4 HPP c0 c4 j0 q1 z0 HS4
      generalize W4.drew = W5 at hHeld BK5 BK65 HI5 HNj5 HNb5 HB5 HP5 ⊢
      refine pure_ (i := 0) (N := some 78) (v := ?_) (a' := ?_) #[true, false, false, false, false, false, false, false, false, false, false, false, false, false, false, false, false, false, false] rfl rfl (any_of HT_.out (by kernel_rfl)) (fun _ _ _ h => h) (Or.inl ⟨by rfl, ?_⟩) ?_ ?_
      rotate_left
      ·intro w'
       go_simp
       with_reducible rfl
      rotate_left
      ·simp only [Act.put, List.setIfInBounds_toArray, List.set_cons_zero, List.set_cons_succ, i64_w]
       rfl
      refine pure_ (i := 1) (N := some 79) (v := ?_) (a' := ?_) #[true, true, false, false, false, false, false, false, false, false, false, false, false, false, false, false, false, false, false] rfl rfl (any_of HT_.out (by kernel_rfl)) (fun _ _ _ h => h) (Or.inl ⟨by rfl, ?_⟩) ?_ ?_
      rotate_left
      ·intro w'
       go_simp
       with_reducible rfl
      rotate_left
      ·simp only [Act.put, List.setIfInBounds_toArray, List.set_cons_zero, List.set_cons_succ, i64_w]
       rfl
      refine pure_ (i := 2) (N := some 80) (v := ?_) (a' := ?_) #[true, true, true, false, false, false, false, false, false, false, false, false, false, false, false, false, false, false, false] rfl rfl (any_of HT_.out (by kernel_rfl)) (fun _ _ _ h => h) (Or.inl ⟨by rfl, ?_⟩) ?_ ?_
      rotate_left
      ·intro w'
       go_simp
       with_reducible rfl
      rotate_left
      ·simp only [Act.put, List.setIfInBounds_toArray, List.set_cons_zero, List.set_cons_succ, i64_w]
       rfl
      refine pure_ (i := 3) (N := some 81) (v := ?_) (a' := ?_) #[true, true, true, true, false, false, false, false, false, false, false, false, false, false, false, false, false, false, false] rfl rfl (any_of HT_.out (by kernel_rfl)) (fun _ _ _ h => h) (Or.inl ⟨by rfl, ?_⟩) ?_ ?_
      rotate_left
      ·intro w'
       go_simp
       with_reducible rfl
      rotate_left
      ·simp only [Act.put, List.setIfInBounds_toArray, List.set_cons_zero, List.set_cons_succ, i64_w]
       rfl
      refine take_ (i := 4) (N := some 82) (v := ?_) (a' := ?_) #[true, true, true, true, true, false, false, false, false, false, false, false, false, false, false, false, false, false, false] rfl rfl (take_ofW HT_.out HW_.out (by kernel_rfl)) (fun _ _ _ h => h) (Or.inl ⟨by rfl, ?_⟩) hHeld ?_ ?_
      rotate_left
      ·rintro w' ⟨s0, s1, s2⟩
       go_simp
       with_reducible rfl
      rotate_left
      ·simp only [Act.put, List.setIfInBounds_toArray, List.set_cons_zero, List.set_cons_succ, i64_w]
       rfl
      refine pure_ (i := 5) (N := some 83) (v := ?_) (a' := ?_) #[true, true, true, true, true, true, false, false, false, false, false, false, false, false, false, false, false, false, false] rfl rfl (any_of HT_.out (by kernel_rfl)) (fun _ _ _ h => h) (Or.inl ⟨by rfl, ?_⟩) ?_ ?_
      rotate_left
      ·intro w'
       go_simp
       with_reducible rfl
      rotate_left
      ·simp only [Act.put, List.setIfInBounds_toArray, List.set_cons_zero, List.set_cons_succ, i64_w]
       rfl
      refine pure_ (i := 6) (N := some 84) (v := ?_) (a' := ?_) #[true, true, true, true, true, true, true, false, false, false, false, false, false, false, false, false, false, false, false] rfl rfl (any_of HT_.out (by kernel_rfl)) (fun _ _ _ h => h) (Or.inl ⟨by rfl, ?_⟩) ?_ ?_
      rotate_left
      ·intro w'
       go_simp
       with_reducible rfl
      rotate_left
      ·simp only [Act.put, List.setIfInBounds_toArray, List.set_cons_zero, List.set_cons_succ, i64_w]
       rfl
      refine take_ (i := 7) (N := some 85) (v := ?_) (a' := ?_) #[true, true, true, true, true, true, true, true, false, false, false, false, false, false, false, false, false, false, false] rfl rfl (take_ofW HT_.out HW_.out (by kernel_rfl)) (fun _ _ _ h => h) (Or.inl ⟨by rfl, ?_⟩) hHeld ?_ ?_
      rotate_left
      ·rintro w' ⟨s0, s1, s2⟩
       go_simp
       with_reducible rfl
      rotate_left
      ·simp only [Act.put, List.setIfInBounds_toArray, List.set_cons_zero, List.set_cons_succ, i64_w]
       rfl
      refine pure_ (i := 8) (N := some 86) (v := ?_) (a' := ?_) #[true, true, true, true, true, true, true, true, true, false, false, false, false, false, false, false, false, false, false] rfl rfl (any_of HT_.out (by kernel_rfl)) (fun _ _ _ h => h) (Or.inl ⟨by rfl, ?_⟩) ?_ ?_
      rotate_left
      ·intro w'
       go_simp
       with_reducible rfl
      rotate_left
      ·simp only [Act.put, List.setIfInBounds_toArray, List.set_cons_zero, List.set_cons_succ, i64_w]
       rfl
      refine take_ (i := 9) (N := some 87) (v := ?_) (a' := ?_) #[true, true, true, true, true, true, true, true, true, true, false, false, false, false, false, false, false, false, false] rfl rfl (take_ofW HT_.out HW_.out (by kernel_rfl)) (fun _ _ _ h => h) (Or.inl ⟨by rfl, ?_⟩) hHeld ?_ ?_
      rotate_left
      ·rintro w' ⟨s0, s1, s2⟩
       go_simp
       with_reducible rfl
      rotate_left
      ·simp only [Act.put, List.setIfInBounds_toArray, List.set_cons_zero, List.set_cons_succ, i64_w]
       rfl
      refine pure_ (i := 10) (N := some 88) (v := ?_) (a' := ?_) #[true, true, true, true, true, true, true, true, true, true, true, false, false, false, false, false, false, false, false] rfl rfl (any_of HT_.out (by kernel_rfl)) (fun _ _ _ h => h) (Or.inl ⟨by rfl, ?_⟩) ?_ ?_
      rotate_left
      ·intro w'
       go_simp
       with_reducible rfl
      rotate_left
      ·simp only [Act.put, List.setIfInBounds_toArray, List.set_cons_zero, List.set_cons_succ, i64_w]
       rfl
      refine pure_ (i := 11) (N := some 89) (v := ?_) (a' := ?_) #[true, true, true, true, true, true, true, true, true, true, true, true, false, false, false, false, false, false, false] rfl rfl (any_of HT_.out (by kernel_rfl)) (fun _ _ _ h => h) (Or.inl ⟨by rfl, ?_⟩) ?_ ?_
      rotate_left
      ·intro w'
       go_simp
       with_reducible rfl
      rotate_left
      ·simp only [Act.put, List.setIfInBounds_toArray, List.set_cons_zero, List.set_cons_succ, i64_w]
       rfl
      refine pure_ (i := 12) (N := some 90) (v := ?_) (a' := ?_) #[true, true, true, true, true, true, true, true, true, true, true, true, true, false, false, false, false, false, false] rfl rfl (any_of HT_.out (by kernel_rfl)) (fun _ _ _ h => h) (Or.inl ⟨by rfl, ?_⟩) ?_ ?_
      rotate_left
      ·intro w'
       go_simp
       with_reducible rfl
      rotate_left
      ·simp only [Act.put, List.setIfInBounds_toArray, List.set_cons_zero, List.set_cons_succ, i64_w]
       rfl
      refine pure_ (i := 13) (N := some 91) (v := ?_) (a' := ?_) #[true, true, true, true, true, true, true, true, true, true, true, true, true, true, false, false, false, false, false] rfl rfl (any_of HT_.out (by kernel_rfl)) (fun _ _ _ h => h) (Or.inl ⟨by rfl, ?_⟩) ?_ ?_
      rotate_left
      ·intro w'
       go_simp
       with_reducible rfl
      rotate_left
      ·simp only [Act.put, List.setIfInBounds_toArray, List.set_cons_zero, List.set_cons_succ, i64_w]
       rfl
      refine take_ (i := 14) (N := some 92) (v := ?_) (a' := ?_) #[true, true, true, true, true, true, true, true, true, true, true, true, true, true, true, false, false, false, false] rfl rfl (take_ofW HT_.out HW_.out (by kernel_rfl)) (fun _ _ _ h => h) (Or.inl ⟨by rfl, ?_⟩) hHeld ?_ ?_
      rotate_left
      ·rintro w' ⟨s0, s1, s2⟩
       go_simp
       with_reducible rfl
      rotate_left
      ·simp only [Act.put, List.setIfInBounds_toArray, List.set_cons_zero, List.set_cons_succ, i64_w]
       rfl
      refine pure_ (i := 15) (N := some 93) (v := ?_) (a' := ?_) #[true, true, true, true, true, true, true, true, true, true, true, true, true, true, true, true, false, false, false] rfl rfl (any_of HT_.out (by kernel_rfl)) (fun _ _ _ h => h) (Or.inl ⟨by rfl, ?_⟩) ?_ ?_
      rotate_left
      ·intro w'
       go_simp
       with_reducible rfl
      rotate_left
      ·simp only [Act.put, List.setIfInBounds_toArray, List.set_cons_zero, List.set_cons_succ, i64_w]
       rfl
      refine pure_ (i := 16) (N := some 94) (v := ?_) (a' := ?_) #[true, true, true, true, true, true, true, true, true, true, true, true, true, true, true, true, true, false, false] rfl rfl (any_of HT_.out (by kernel_rfl)) (fun _ _ _ h => h) (Or.inl ⟨by rfl, ?_⟩) ?_ ?_
      rotate_left
      ·intro w'
       go_simp
       with_reducible rfl
      rotate_left
      ·simp only [Act.put, List.setIfInBounds_toArray, List.set_cons_zero, List.set_cons_succ, i64_w]
       rfl
      refine pure_ (i := 17) (N := some 95) (v := ?_) (a' := ?_) #[true, true, true, true, true, true, true, true, true, true, true, true, true, true, true, true, true, true, false] rfl rfl (any_of HT_.out (by kernel_rfl)) (fun _ _ _ h => h) (Or.inl ⟨by rfl, ?_⟩) ?_ ?_
      rotate_left
      ·intro w'
       go_simp
       with_reducible rfl
      rotate_left
      ·simp only [Act.put, List.setIfInBounds_toArray, List.set_cons_zero, List.set_cons_succ, i64_w]
       rfl
      obtain ⟨cells_, hbk_⟩ := Kd.R_typed HP5.out.code gk rfl
      have hrow_ := row47 HP5.out.code jn HJN.out
      have hs_ := hrow_ 4 _ rfl
      have hf_ := blk_frozen hbk_ (jn * 5 + 4)
      refine last_ (i := 18) (N := none) #[true, true, true, true, true, true, true, true, true, true, true, true, true, true, true, true, true, true, true] rfl rfl (one_of HT_.out (by kernel_rfl)) (by decide) (fun K hK => ?_)
      refine skip_ (w1 := ?_) (by rfl) rfl ?_ ?_
      rotate_left
      ·go_simp
       rfl
      refine hK.out _ _ ?_
      clear hK K
      clear hs_ hf_ hbk_
      generalize hWD : W5.setCell ⟨gk, jn * 5 + 4, none⟩ (.int .i64 (st2.code.length : Int)) = W6
      obtain ⟨ho, hg⟩ := Kd.R_seg (okp := fun _ => False) (j := 4) (c := [.int .i64 (rd_T47 st2.code (jn : Int)).f0, .int .i64 (rd_T47 st2.code (jn : Int)).f1, .int .i64 (rd_T47 st2.code (jn : Int)).f2, .int .i64 (rd_T47 st2.code (jn : Int)).f3, .int .i64 (rd_T47 st2.code (jn : Int)).f4]) (seg := [.int .i64 (st2.code.length : Int)]) (x' := (⟨(rd_T47 st2.code (jn : Int)).f0, (rd_T47 st2.code (jn : Int)).f1, (rd_T47 st2.code (jn : Int)).f2, (rd_T47 st2.code (jn : Int)).f3, (st2.code.length : Int)⟩ : S47)) HP5.out.code (jn : Int) (by omega) nI2 rfl (by rw [Int.toNat_natCast]; exact hrow_) (Nat.le_refl _) (k47_mkM _ _ _ _) (fun _ h_ => h_.elim)
      have hWS : W5.setCells gk ((jn : Int).toNat * k47.sz + 4) [.int .i64 (st2.code.length : Int)] = W6 := by rw [← hWD, Int.toNat_natCast]; rfl
      rw [hWS, Int.toNat_natCast] at ho
      rw [hWS] at hg
      clear hWD hWS hrow_
      have HGK := am (Kd.R_base HP5.out.code gk rfl)
      have HS6 := am (compP_code HP5.out hg ho)
      have HI6 := am (row_over HI5.out hg (fun e_ => by have := Li.out; have := HGK.out; omega))
      have HNj6 := am (row_over HNj5.out hg (fun e_ => by have := Lj.out; have := HGK.out; omega))
      have HNb6 := am (row_over HNb5.out hg (fun e_ => by have := Lb.out; have := HGK.out; omega))
      have BK66 := am (blk_grown BK65.out hg (fun e_ => by injection e_ with e_; have := L6.out; have := HGK.out; omega))
      have HB6 := am (pw_below_grown HB5.out (some gk) (below_size HB5.out) hg (fun k_ e_ => by injection e_ with e_; have := GB.out; have := HGK.out; omega))
      clear ho hg HI5 HNj5 HNb5 BK65 HB5 HP5 BK5
      have j0 : W6.cell? ⟨gb, k, none⟩ = some (.int .i64 bv) := by rw [HBV.out]; exact (int_at HNb6.out k hlt).1
      obtain ⟨st3, hst3⟩ : ∃ st3 : CSt, st3 = ⟨st2.code.set jn (⟨(rd_T47 st2.code (jn : Int)).f0, (rd_T47 st2.code (jn : Int)).f1, (rd_T47 st2.code (jn : Int)).f2, (rd_T47 st2.code (jn : Int)).f3, (st2.code.length : Int)⟩ : S47), st2.cols, st2.names⟩ := ⟨_, rfl⟩
      have HTO' := am (show toS ⟨a0, a1, a2, a3, (an : Int), a5⟩ jm st2 = st3 from by rw [hst3]; exact HTO.out)
      have HLE := am (show st3.code.length = st.code.length + 1 from by rw [hst3]; simp only [List.length_set]; exact HL2.out)
      rw [← hst3] at HS6
      clear hst3 HTO nI1 nI2 nI3
      have HTO := HTO'
      clear HTO'
      refine done_ (done_of HT_.out (by kernel_rfl)) ?_
      by_cases hz : bv = 0
      ·have HV := am (show cpK types (itemsV its t) t (k + 1) = (st3, jm) from by rw [HNX.out, HTO.out, endS, ← HBV.out, if_pos hz])
       have eZ : (bv != 0) = false := by simpa using hz
       clear hz
       go_wp2
       go_roundw
       case rel => first
        | exact ⟨k + 1, by first | rfl | (rw [eK]; rfl), hlt, HI6, ⟨by rw [HV.out]; exact HNj6.out⟩, HNb6, ⟨by rw [HV.out]; exact HS6.out⟩, HB6, BK66⟩
        | (refine ⟨_, _, _, ?_, rfl, rfl, rfl⟩; exact ⟨k + 1, rfl, hlt, HI6, ⟨by rw [HV.out]; exact HNj6.out⟩, HNb6, ⟨by rw [HV.out]; exact HS6.out⟩, HB6, BK66⟩)
       case measure => first | exact mu2_ hlt (Int.lt_succ _) | exact mu2_ hlt (by rw [eK]; exact Int.lt_succ _)
      have HV := am (show cpK types (itemsV its t) t (k + 1) = (layS st3 ⟨bv, 0, 0, 0, 0⟩, jm.set k (st3.code.length : Int)) from by rw [HNX.out, HTO.out, endS, ← HBV.out, if_neg hz])
      have eZ : (bv != 0) = true := by simpa using hz
      clear hz
      obtain ⟨vc, vl, D, hp⟩ := HS6.out
      obtain ⟨Ac, cc, rfl⟩ := Kd.R_slice hp.code
      have HPP := am hp
      clear hp
      have q1 : W6.cell? ⟨gc, 1, none⟩ = some (.slice Ac st3.code.length cc) := (blk_cell HPP.out.cells 1).trans rfl
      have HKN := am hlt
      go_wp2_with (first | ((with_reducible refine gate_store (t := 3) (p := 109) rfl ?_); refine Kd.R_store (Kd.int .i64) (w0 := w) w.heap.size rfl rfl 3 _ _ rfl 3 (o' := (((k : Nat) : Int)).toNat) (((k : Nat) : Int)) 0 jm (st3.code.length : Int) (.int .i64 (st3.code.length : Int)) [.int .i64 (st3.code.length : Int)] [.int .i64 (jm.getD (((k : Nat) : Int)).toNat 0)] (fun q_ => q_ = gj) (fun _ => False) ?zzsa ?zzso rfl rfl ?zzst ?zzs1 HNj6.out ?zzs0 ?zzsi rfl ?zzsc ?zzsj ?zzsm (fun _ h_ => h_.elim) HB6.out ?_; (case zzsa => rfl); (case zzso => show (((k : Nat) : Int)).toNat = (((k : Nat) : Int)).toNat * 1 + 0; omega); (case zzst => kernel_rfl); (case zzs1 => intro q_ hq_; simp at hq_; rcases hq_ with rfl; rfl); (case zzs0 => omega); (case zzsi => omega); (case zzsc => intro j u hu; rw [show (((k : Nat) : Int)).toNat * (Kd.int .i64).sz + j = (((k : Nat) : Int)).toNat + j from by show (((k : Nat) : Int)).toNat * 1 + j = _; omega]; exact int_row_at HNj6.out _ (by omega) j u hu); (case zzsj => exact Nat.le_refl _); (case zzsm => exact rfl); intro W21 ho hb hg; rw [Int.toNat_natCast] at ho; have HNj9 := am ho; have HB9 := am hb; have HI9 := am (row_over HI6.out hg Nij.out); have HNb9 := am (row_over HNb6.out hg Nbj.out); have BK69 := am (blk_grown BK66.out hg (fun e_ => Nj6.out (by injection e_ with e_; exact e_.symm))); have HS9 := am (compSt_grown HS6.out hg NjC.out NjM.out Lj.out); clear ho hb hg q1 j0; have j0 : W21.cell? ⟨gb, k, none⟩ = some (.int .i64 bv) := (by rw [HBV.out]; exact (int_at HNb9.out k hlt).1)) | (go_at_call 20; refine (comp_lay W21 b gc gm (.slice T0 types.length tc) st3 bv 0 0 0 0 HS9.out (by have := BND.out; have := HS.out; have := HLE.out; omega)).mono ?_; rintro e W22 ⟨rfl, hs_, hc_⟩; have HSA := am hs_; have HIA := am (row_ins HI9.out hc_ NiC.out NiM.out Li.out); have HNjA := am (row_ins HNj9.out hc_ NjC.out NjM.out Lj.out); have HNbA := am (row_ins HNb9.out hc_ NbC.out NbM.out Lb.out); have BK6A := am (blk_ins BK69.out hc_ N6C.out N6M.out (by decide)); have HBA := am (below_ins HB9.out hc_ GB.out GEC.out GE_gm.out); clear hs_ hc_ j0))
      go_roundw
      case rel => first
       | exact ⟨k + 1, by first | rfl | (rw [eK]; rfl), hlt, HIA, ⟨by rw [HV.out]; exact HNjA.out⟩, HNbA, ⟨by rw [HV.out]; exact HSA.out⟩, HBA, BK6A⟩
       | (refine ⟨_, _, _, ?_, rfl, rfl, rfl⟩; exact ⟨k + 1, rfl, hlt, HIA, ⟨by rw [HV.out]; exact HNjA.out⟩, HNbA, ⟨by rw [HV.out]; exact HSA.out⟩, HBA, BK6A⟩)
      case measure => first | exact mu2_ hlt (Int.lt_succ _) | exact mu2_ hlt (by rw [eK]; exact Int.lt_succ _)
    have HTO := am (show toS ⟨a0, a1, a2, a3, a4, a5⟩ jm st2 = st2 from by rw [toS, if_neg hop])
    have HLE := am (show st2.code.length = st.code.length + 1 from HL2.out)
    have e25 : (a0 == 25) = false := by simp; omega
    have e26 : (a0 == 26) = false := by simp; omega
    clear hop c4
    by_cases hz : bv = 0
    ·have HV := am (show cpK types (itemsV its t) t (k + 1) = (st2, jm) from by rw [HNX.out, HTO.out, endS, ← HBV.out, if_pos hz])
     have eZ : (bv != 0) = false := by simpa using hz
     clear hz
     go_wp2
     go_roundw
     case rel => first
      | exact ⟨k + 1, by first | rfl | (rw [eK]; rfl), hlt, HI4, ⟨by rw [HV.out]; exact HNj4.out⟩, HNb4, ⟨by rw [HV.out]; exact HS4.out⟩, HB4, BK64⟩
      | (refine ⟨_, _, _, ?_, rfl, rfl, rfl⟩; exact ⟨k + 1, rfl, hlt, HI4, ⟨by rw [HV.out]; exact HNj4.out⟩, HNb4, ⟨by rw [HV.out]; exact HS4.out⟩, HB4, BK64⟩)
     case measure => first | exact mu2_ hlt (Int.lt_succ _) | exact mu2_ hlt (by rw [eK]; exact Int.lt_succ _)
    have HV := am (show cpK types (itemsV its t) t (k + 1) = (layS st2 ⟨bv, 0, 0, 0, 0⟩, jm.set k (st2.code.length : Int)) from by rw [HNX.out, HTO.out, endS, ← HBV.out, if_neg hz])
    have eZ : (bv != 0) = true := by simpa using hz
    clear hz
    obtain ⟨vc, vl, D, hp⟩ := HS4.out
    obtain ⟨Ac, cc, rfl⟩ := Kd.R_slice hp.code
    have HPP := am hp
    clear hp
    have q1 : W4.cell? ⟨gc, 1, none⟩ = some (.slice Ac st2.code.length cc) := (blk_cell HPP.out.cells 1).trans rfl
    have HKN := am hlt
    go_wp2_with (first | ((with_reducible refine gate_store (t := 3) (p := 109) rfl ?_); refine Kd.R_store (Kd.int .i64) (w0 := w) w.heap.size rfl rfl 3 _ _ rfl 3 (o' := (((k : Nat) : Int)).toNat) (((k : Nat) : Int)) 0 jm (st2.code.length : Int) (.int .i64 (st2.code.length : Int)) [.int .i64 (st2.code.length : Int)] [.int .i64 (jm.getD (((k : Nat) : Int)).toNat 0)] (fun q_ => q_ = gj) (fun _ => False) ?zzsa ?zzso rfl rfl ?zzst ?zzs1 HNj4.out ?zzs0 ?zzsi rfl ?zzsc ?zzsj ?zzsm (fun _ h_ => h_.elim) HB4.out ?_; (case zzsa => rfl); (case zzso => show (((k : Nat) : Int)).toNat = (((k : Nat) : Int)).toNat * 1 + 0; omega); (case zzst => kernel_rfl); (case zzs1 => intro q_ hq_; simp at hq_; rcases hq_ with rfl; rfl); (case zzs0 => omega); (case zzsi => omega); (case zzsc => intro j u hu; rw [show (((k : Nat) : Int)).toNat * (Kd.int .i64).sz + j = (((k : Nat) : Int)).toNat + j from by show (((k : Nat) : Int)).toNat * 1 + j = _; omega]; exact int_row_at HNj4.out _ (by omega) j u hu); (case zzsj => exact Nat.le_refl _); (case zzsm => exact rfl); intro W21 ho hb hg; rw [Int.toNat_natCast] at ho; have HNj9 := am ho; have HB9 := am hb; have HI9 := am (row_over HI4.out hg Nij.out); have HNb9 := am (row_over HNb4.out hg Nbj.out); have BK69 := am (blk_grown BK64.out hg (fun e_ => Nj6.out (by injection e_ with e_; exact e_.symm))); have HS9 := am (compSt_grown HS4.out hg NjC.out NjM.out Lj.out); clear ho hb hg q1 j0; have j0 : W21.cell? ⟨gb, k, none⟩ = some (.int .i64 bv) := (by rw [HBV.out]; exact (int_at HNb9.out k hlt).1)) | (go_at_call 20; refine (comp_lay W21 b gc gm (.slice T0 types.length tc) st2 bv 0 0 0 0 HS9.out (by have := BND.out; have := HS.out; have := HLE.out; omega)).mono ?_; rintro e W22 ⟨rfl, hs_, hc_⟩; have HSA := am hs_; have HIA := am (row_ins HI9.out hc_ NiC.out NiM.out Li.out); have HNjA := am (row_ins HNj9.out hc_ NjC.out NjM.out Lj.out); have HNbA := am (row_ins HNb9.out hc_ NbC.out NbM.out Lb.out); have BK6A := am (blk_ins BK69.out hc_ N6C.out N6M.out (by decide)); have HBA := am (below_ins HB9.out hc_ GB.out GEC.out GE_gm.out); clear hs_ hc_ j0))
    go_roundw
    case rel => first
     | exact ⟨k + 1, by first | rfl | (rw [eK]; rfl), hlt, HIA, ⟨by rw [HV.out]; exact HNjA.out⟩, HNbA, ⟨by rw [HV.out]; exact HSA.out⟩, HBA, BK6A⟩
     | (refine ⟨_, _, _, ?_, rfl, rfl, rfl⟩; exact ⟨k + 1, rfl, hlt, HIA, ⟨by rw [HV.out]; exact HNjA.out⟩, HNbA, ⟨by rw [HV.out]; exact HSA.out⟩, HBA, BK6A⟩)
    case measure => first | exact mu2_ hlt (Int.lt_succ _) | exact mu2_ hlt (by rw [eK]; exact Int.lt_succ _)
   have hk := HK.out
   clear HK
   obtain rfl : k = t.length := by omega
   clear hk hlt
   have eD : decide ((t.length : Int) < (t.length : Int)) = false := decide_eq_false (by omega)
   obtain ⟨vc, vl, D, hp⟩ := HST.out
   obtain ⟨Ac, cc, rfl⟩ := Kd.R_slice hp.code
   obtain ⟨Al, cl, rfl⟩ := Kd.S_slice hp.cols
   have HPP := am hp
   clear hp
   have q1 : wr.cell? ⟨gc, 1, none⟩ = some (.slice Ac (cpK types (itemsV its t) t t.length).1.code.length cc) := (blk_cell HPP.out.cells 1).trans rfl
   have q2 : wr.cell? ⟨gc, 2, none⟩ = some (.slice Al (cpK types (itemsV its t) t t.length).1.cols.length cl) := (blk_cell HPP.out.cells 2).trans rfl
   have c60 : wr.cell? ⟨g6, 0, none⟩ = some (.slice none 0 0) := (blk_cell BK_g6.out 0).trans rfl
   have c61 : wr.cell? ⟨g6, 1, none⟩ = some (.slice none 0 0) := (blk_cell BK_g6.out 1).trans rfl
   have f60 := blk_frozen BK_g6.out 0
   have f61 := blk_frozen BK_g6.out 1
   have HE := am (show compV types its t = ((cpK types (itemsV its t) t t.length).1.code, (cpK types (itemsV its t) t t.length).1.cols) from by unfold compV; rw [if_pos hr_.out])
   go_wp2
   refine bodyPost_ret (v := .agg #[.slice Ac (cpK types (itemsV its t) t t.length).1.code.length cc, .slice Al (cpK types (itemsV its t) t t.length).1.cols.length cl]) (by simp [results, Tryd.results8, go_sem, *]) rfl ⟨_, _, rfl, ?_, ?_, ?_⟩
   ·rw [HE.out]
    exact Kd.R_lower (Kd.R_set (Kd.R_set HPP.out.code BK_g6.out (by decide) 0 _) (blk_set BK_g6.out 0 _) (by decide) 1 _) GB.out
   ·rw [HE.out]
    exact Kd.S_lower (Kd.S_set (Kd.S_set HPP.out.cols BK_g6.out (by decide) 0 _) (blk_set BK_g6.out 0 _) (by decide) 1 _) GB.out
   exact below_set (below_set HB.out GE_g6.out) GE_g6.out
end Go.Proofs.YtbhpjpeknooppaaDoor.M
