/- The contract of sluicelaw7.CodeSpares: it answers true and writes nothing that was there. Conditions: the arguments are read, within the sizes that memory allows. -/
import Derived.Test.YtbhpjpeknooppaaDoorK04
import Derived.Test.YtbhpjpeknooppaaDoorK06
import Derived.Test.YtbhpjpeknooppaaDoorK11
import Derived.Test.YtbhpjpeknooppaaDoorK13
import Derived.Test.YtbhpjpeknooppaaDoorK14
import Derived.Test.YtbhpjpeknooppaaDoorK15
namespace Go.Proofs.YtbhpjpeknooppaaDoor.M
open Go.RowKit Go.Proofs.YtbhpjpeknooppaaDoorW.PrintWords Go.Proofs.YtbhpjpeknooppaaDoorW.PrintLast Go.Proofs.YtbhpjpeknooppaaDoorW.PrintMore
open Go.Proofs.YtbhpjpeknooppaaDoor.PCodeSpares
set_option linter.unusedVariables false
def SS (a b c k : Nat) : Prop := (a ≤ k ∧ k < b) ∨ c ≤ k
theorem ss_mid {a b c k : Nat} (h1 : b ≤ k) (h2 : k < c) : ¬ SS a b c k := by unfold SS; omega
theorem ss_low {a b c k : Nat} (h1 : k < a) (h : a ≤ b) (h2 : b ≤ c) : ¬ SS a b c k := by unfold SS; omega
theorem Chg.grown_ {S : Nat → Prop} {w0 w w1 : World} {row : Option Nat} (h : Chg S w0 w) (hg : w.grownBy w1 row) (hr : ∀ k, row = some k → S k) : Chg S w0 w1 := h.trans (.of_grown hg hr)
theorem own_far {w w1 : World} {base e n size : Nat} {v : Value} {cs : List Value} {row : Option Nat} (h : w.ownsRow base e size v n cs) (hg : w.grownBy w1 row) (hne : ∀ k, v.ownBlock = some k → some k ≠ row) : w1.ownsRow base e size v n cs :=
 own_move h (fun k hk => hg.block k (own_lt h k hk) (hne k hk))
theorem own_below {w w1 : World} {base e n size : Nat} {v : Value} {cs : List Value} (h : w.ownsRow base e size v n cs) (hb : Below w.heap.size w w1) : w1.ownsRow base e size v n cs :=
 own_move h (fun k hk => hb.block k (own_lt h k hk))
theorem rd_at {α : Type} {d : Kd α} {w8 W : World} {a b N e base n c : Nat} {A : Option Addr} {xs : List α} (h : d.R e w8 base (fun k => b ≤ k ∧ k < N) (.slice A n c) xs) (hc : Chg (SS a b N) w8 W) : d.C W A xs.length xs :=
 (Kd.R_reads' (R_chg h hc (fun k hk => ss_mid hk.1 hk.2))).2.2
theorem ss_rebase {α : Type} {d : Kd α} {w8 W : World} {a b e base : Nat} {v : Value} {xs : List α} (h : d.R e w8 base (fun k => b ≤ k ∧ k < w8.heap.size) v xs) (hc : Chg (SS a b w8.heap.size) w8 W) : d.R e W base (fun k => b ≤ k ∧ k < W.heap.size) v xs :=
 Kd.R_mono (R_chg h hc (fun k hk => ss_mid hk.1 hk.2)) (fun k hk => ⟨hk.1, Nat.lt_of_lt_of_le hk.2 hc.size⟩)
theorem ss_below {w w8 W : World} {a b : Nat} (h : Below w.heap.size w w8) (hc : Chg (SS a b w8.heap.size) w8 W) (hz : w.heap.size ≤ a ∧ a ≤ b ∧ b ≤ w8.heap.size) : Below w.heap.size w W :=
 h.trans (hc.below (by omega) (fun k hk => by unfold SS at hk; omega))
theorem bch {w8 W : World} {g : Nat} {o : Obj} {S : Nat → Prop} (x : Aside0 (w8.heap[g]? = some o)) (y : Aside0 (Chg S w8 W)) (z : Aside0 (¬ S g)) : Aside0 (W.heap[g]? = some o) := ⟨blk_chg x.out y.out z.out⟩
theorem ss_z {w w8 W : World} {a b : Nat} (hc : Chg (SS a b w8.heap.size) w8 W) (hz : w.heap.size ≤ a ∧ a ≤ b ∧ b ≤ w8.heap.size) : w.heap.size ≤ a ∧ a ≤ b ∧ b ≤ W.heap.size :=
 ⟨hz.1, hz.2.1, Nat.le_trans hz.2.2 hc.size⟩
theorem ss_hi {w8 : World} {a b g : Nat} {o : Obj} (h1 : b ≤ g) (h2 : w8.heap[g]? = some o) : ¬ SS a b w8.heap.size g := ss_mid h1 (blk_lt h2)
theorem blk_over {w w1 : World} {g t e : Nat} {cs : Array Value} {row : Option Nat} (h : w.heap[g]? = some (.cells cs t (0, 0))) (hg : w.grownBy w1 row) (hty : ∀ k, row = some k → ∃ cells, w.heap[k]? = some (.cells cells e (0, 0))) (ht : t ≠ e) : w1.heap[g]? = some (.cells cs t (0, 0)) :=
 (hg.block g (blk_lt h) (fun he => by
  obtain ⟨c2, h2⟩ := hty g he.symm
  rw [h] at h2
  cases h2
  exact ht rfl)).trans h
section
variable {P : Program} {ops : Array Oper} {rest : List Oper} {o : Oper} {a : Act} {Q : Exit → Act → World → Prop}
theorem append_kept_cell {W : World} (base : Nat) (hgd : o.guard = none) (s x : Operand) (t e : TypeId) (z : Value) (bytes : Nat)
  (ho : o.op = .call { callee := .builtin .append, args := #[s, x], argTypes := #[t, t] })
  (ht : P.underlying t = some (.slice e)) (hinfo : (P.info? e).map (fun i => (i.zero, i.size, i.bytes)) = some (some z, 1, bytes)) (hz : z.cells.size = 1) (hb0 : 0 < bytes)
  (v : Value) (xs : List Value) (u : Value) (hs : a.eval s = v) (hx : a.eval x = .slice (some ⟨W.heap.size, 0, none⟩) 1 1) (h1 : u.oneCell' = true)
  (HO : W.ownsRow base e 1 v xs.length xs) (hbase : base ≤ W.heap.size) (hl : (xs.length + 1) * bytes ≤ 140737488355328)
  (h : ∀ v1 w1, w1.ownsRow base e 1 v1 (xs ++ [u]).length (xs ++ [u]) → w1.ownsRow base e 1 v xs.length xs → W.grownBy w1 v.ownBlock → (v1.ownBlock = v.ownBlock ∨ ∃ b, v1.ownBlock = some b ∧ W.heap.size ≤ b) → wpList P ops Q rest (a.put o.dst v1) w1) :
  wpList P ops Q (o :: rest) a (W.alloc (.cells #[u] e)) := by
 refine wpList_plain hgd fun K hK => ?_
 refine wp_append_kept base s x t e z 1 bytes ho ht hinfo hz (by decide) hb0 v xs.length xs [u] hs hx rfl (fun q hq => by rw [List.mem_singleton] at hq; subst hq; exact h1) HO hbase hl ?_
 intro v1 w1 ho1 hk1 hg1 hat1
 exact hK _ _ (h v1 w1 (by rw [List.length_append, List.length_singleton]; exact ho1) hk1 hg1 hat1)
end
section
variable {α : Type} {d : Kd α} {e e0 : Nat} {w w1 : World} {base b2 : Nat} {P : Nat → Prop} {f : Nat → Nat} {us : List Value} {ys : List (List α)}
theorem fam_rd {A : Option Addr} {n c : Nat} (ho : w.ownsRow base e 1 (.slice A n c) us.length us) (hf : Fam d e0 w b2 P f us ys) : (Kd.slice e0 d).C w A ys.length ys := by
 obtain ⟨A', c', h, _, hC⟩ := fam_C ho hf
 cases h
 exact hC
theorem fam_one (hf : Fam d e0 w b2 P f us ys) : ∀ u ∈ us, u.oneCell' = true := by
 intro u hu
 obtain ⟨j, hj, rfl⟩ := List.mem_iff_getElem.1 hu
 obtain ⟨A, c, h⟩ := Kd.R_slice (hf.row j (by rw [← hf.len]; exact hj))
 rw [List.getD_eq_getElem?_getD, List.getElem?_eq_getElem hj, Option.getD_some] at h
 rw [h]
 rfl
theorem Fam.lower {base' : Nat} (h : Fam d e w base P f us ys) (hb : base' ≤ base) : Fam d e w base' P f us ys := ⟨h.len, fun j hj => Kd.R_lower (h.row j hj) hb⟩
end
theorem rd_last {xs : List S47} {x : S47} : rd_T47 (xs ++ [x]) (xs.length : Int) = x := by
 unfold rd_T47
 rw [Int.toNat_natCast, List.getD_eq_getElem?_getD, List.getElem?_append_right (Nat.le_refl _), Nat.sub_self]
 rfl
theorem own_some {w : World} {base e n m size c : Nat} {A : Option Addr} {cs : List Value} (h : w.ownsRow base e size (.slice A (n + 1) c) m cs) : ∃ g, A = some ⟨g, 0, none⟩ := by
 rcases h.2 with ⟨e_, _⟩ | ⟨g, cap, cur, e_, _⟩
 ·injection e_ with _ h2 _
  omega
 injection e_ with e1_ _ _
 exact ⟨g, e1_⟩
theorem own_last {w : World} {base e n c g : Nat} {us : List Value} {u : Value} (h : w.ownsRow base e 1 (.slice (some ⟨g, 0, none⟩) (n + 1) c) (us ++ [u]).length (us ++ [u])) (hn : us.length = n) : w.cell? ⟨g, n, none⟩ = some u := by
 subst hn
 have h2 := h.cells (g := g) rfl us.length u (by rw [List.getElem?_append_right (Nat.le_refl _), Nat.sub_self]; rfl)
 rwa [add_plain] at h2
def mk4 (xs : List (List Int)) (i : Nat) : List (List Int) := (List.range i).map fun j => xs.getD j [] ++ [-100 - (j : Int)]
theorem mk4_length (xs : List (List Int)) (i : Nat) : (mk4 xs i).length = i := by simp [mk4]
theorem mk4_succ (xs : List (List Int)) (i : Nat) : mk4 xs (i + 1) = mk4 xs i ++ [xs.getD i [] ++ [-100 - (i : Int)]] := by
 unfold mk4
 rw [List.range_succ, List.map_append]
 rfl
theorem mk4_at {xs : List (List Int)} {i j : Nat} (hj : j < i) : (mk4 xs i).getD j [] = xs.getD j [] ++ [-100 - (j : Int)] := by
 rw [List.getD_eq_getElem?_getD, mk4, List.getElem?_map, List.getElem?_range hj]
 rfl
def m55 (_ : Nat) : Int := 55
theorem mk1_drop (xs : List (List Int)) (i : Nat) : (mk1 m55 xs i).drop i = xs.drop i := by
 apply List.ext_getElem?
 intro j
 rw [List.getElem?_drop, List.getElem?_drop, mk1, List.getElem?_mapIdx]
 cases xs[i + j]? with
 | none => rfl
 | some x =>
  simp
  intro h
  omega
def repC (xs : List (List Int)) (k : Nat) : List (List Int) := (List.replicate k xs).flatten
theorem repC_succ (xs : List (List Int)) (k : Nat) : repC xs (k + 1) = repC xs k ++ xs := by
 unfold repC
 rw [List.replicate_succ', List.flatten_append]
 simp
theorem repC_length (xs : List (List Int)) (k : Nat) : (repC xs k).length = k * xs.length := by simp [repC]
theorem repC_mem {xs : List (List Int)} {k : Nat} {x : List Int} (h : x ∈ repC xs k) : x ∈ xs := by
 unfold repC at h
 obtain ⟨l, hl, hx⟩ := List.mem_flatten.1 h
 rw [List.eq_of_mem_replicate hl] at hx
 exact hx
theorem drop_mem {xs : List (List Int)} {k : Nat} {x : List Int} (h : x ∈ xs.drop k) : x ∈ xs := List.mem_of_mem_drop h
end Go.Proofs.YtbhpjpeknooppaaDoor.M
namespace Go.Proofs.YtbhpjpeknooppaaDoor.M
open Go.RowKit Go.Proofs.YtbhpjpeknooppaaDoorW.PrintWords Go.Proofs.YtbhpjpeknooppaaDoorW.PrintLast Go.Proofs.YtbhpjpeknooppaaDoorW.PrintMore
open Go.Proofs.YtbhpjpeknooppaaDoor.PCodeSpares
set_option linter.unusedVariables false
set_option linter.unusedSimpArgs false
attribute [local go_sem high] eqA50 eqA47
def cs_a.T : Bool × List (List Nat × List Nat) := (true, [([], []), ([0], [0]), ([], []), ([2], [2]), ([], []), ([4], [4]), ([3, 5], [3, 5]), ([1, 6], [1, 6]), ([], []), ([8, 7, 0, 1, 2, 3, 4, 5, 6, 7, 8], [7, 8])])
def cs_a.B : List Nat := [0, 1, 0, 4, 0, 16, 60, 127, 0, 511]
theorem cs_a.tab : rtab .any (opsOf Tryd.f3 30) = cs_a.T := by kernel_rfl
theorem cs_a.bits : waitsOk cs_a.T.2 cs_a.B = true := by kernel_rfl
def cs_b.T : Bool × List (List Nat × List Nat) := (true, [([], []), ([], []), ([1], [1]), ([], []), ([3], [3]), ([], []), ([5], [5]), ([4, 6], [4, 6]), ([2, 7], [2, 7]), ([0, 8], [0, 8]), ([9], [9])])
def cs_b.B : List Nat := [0, 0, 2, 0, 8, 0, 32, 120, 254, 511, 1023]
theorem cs_b.tab : rtab .any (opsOf Tryd.f3 31) = cs_b.T := by kernel_rfl
theorem cs_b.bits : waitsOk cs_b.T.2 cs_b.B = true := by kernel_rfl
def cs_c.T : Bool × List (List Nat × List Nat) := (true, [([], []), ([], []), ([0, 1], [0, 1]), ([2], [2]), ([3], [3]), ([3], [3]), ([4, 5, 3], [3, 4, 5]), ([3, 6], [3, 6]), ([7, 3], [7]), ([8], [8]), ([8], [8]), ([9, 10, 8, 8], [8, 9, 10]), ([8, 11], [8, 11]), ([12, 11], [12]), ([13], [13]), ([13], [13]), ([13], [13]), ([14, 15, 16, 13, 13], [13, 14, 15, 16]), ([13], [13]), ([17, 18, 17, 13], [13, 17, 18]), ([13, 19], [13, 19]), ([20, 19, 0, 1, 2, 3, 4, 5, 6, 7, 8, 9, 10, 11, 12, 13, 14, 15, 16, 17, 18, 19, 20], [20])])
def cs_c.B : List Nat := [0, 0, 3, 7, 15, 15, 63, 127, 255, 511, 511, 2047, 4095, 8191, 16383, 16383, 16383, 131071, 16383, 524287, 1048575, 2097151]
theorem cs_c.tab : rtab .any (opsOf Tryd.f3 50) = cs_c.T := by kernel_rfl
theorem cs_c.bits : waitsOk cs_c.T.2 cs_c.B = true := by kernel_rfl
theorem cut40 (A : Option Addr) (n c i : Nat) (hm : i < n) : ∃ Ad, (∀ W : World, (Instr.slice 40 (.slice A n c) (some (.int .i64 ((i : Int) + 1))) none none).run Tryd.prog W = .ok (.slice Ad (n - (i + 1)) (c - (i + 1))) W) ∧ ∀ (w : World) (xs : List (List Int)), xs.length = n → n ≤ c → Kd.C (Kd.slice 3 (Kd.int .i64)) w A n xs → Kd.C (Kd.slice 3 (Kd.int .i64)) w Ad (xs.drop (i + 1)).length (xs.drop (i + 1)) := by
 obtain ⟨i0, hi, hzz⟩ := Option.map_eq_some_iff.1 info48
 simp only [Prod.mk.injEq] at hzz
 have e : ((i : Int) + 1).toNat = i + 1 := by omega
 refine ⟨if c = i + 1 then A else A.map (·.add ((i + 1) * 1)), fun W => ?_, fun w xs hl hc h => ?_⟩
 ·have h := cut_from (P := Tryd.prog) 40 48 .i64 Tryd.underlying40 hi 1 hzz.2.1 A n c ((i : Int) + 1) (by omega) (by omega) W
  rw [e] at h
  exact h
 subst hl
 exact Kd.C_drop h hm hc
theorem same_is (k n m : Nat) (code : List S47) (xs : List (List Int)) (A0 : Option Addr) (c0 : Nat) (A1 : Option Addr) (c1 : Nat) (B0 : Option Addr) (d0 : Nat) (B1 : Option Addr) (d1 : Nat) (w : World) (hn : code.length = n) (hm : xs.length = m) (h0 : Kd.C k47 w A0 code.length code) (hc0 : code.length ≤ c0) (h1 : Kd.C (Kd.slice 3 (Kd.int .i64)) w A1 xs.length xs) (hc1 : m ≤ c1) (h2 : Kd.C k47 w B0 code.length code) (hc2 : code.length ≤ d0) (h3 : Kd.C (Kd.slice 3 (Kd.int .i64)) w B1 xs.length xs) (hc3 : m ≤ d1) (h : sluicelaw7_sameProgram.f k code xs code xs = some true) :
  Calls Tryd.prog 11 #[.agg #[.slice A0 n c0, .slice A1 m c1], .agg #[.slice B0 n d0, .slice B1 m d1]] w fun e w' => e = .returned (.bool true) ∧ Below w.heap.size w w' := by
 subst hn
 subst hm
 exact sluicelaw7_sameProgram.calls k A0 c0 code A1 c1 xs B0 d0 code B1 d1 xs true w h0 hc0 h1 hc1 h2 hc2 h3 hc3 h
theorem comp_is (Q0 : Option Addr) (c0 : Nat) (its : List S67) (q1 q2 : Int) (Q3 : Option Addr) (c3 : Nat) (wh : List S61) (q4 : Int) (q5 : ByteArray) (Q6 : Option Addr) (c6 : Nat) (ret : List (List S61)) (T0 : Option Addr) (tc : Nat) (types : List S65) (A : Option Addr) (c : Nat) (t : List S61) (w : World) (G : GlobK w) (hq : QReads w Q0 c0 its q1 q2 Q3 c3 wh q4 q5 Q6 c6 ret) (hty : Kd.C k65 w T0 types.length types) (htc : types.length ≤ tc) (hts : types.length ≤ 4398046511104) (ht : Kd.C k61 w A t.length t) (hsz : t.length ≤ 2199023255488) (code : List S47) (cols : List (List Int)) (hcv : compV types its t = (code, cols)) :
  Calls Tryd.prog 8 #[.agg #[.slice T0 types.length tc], .agg #[.slice Q0 its.length c0, .int .i64 q1, .int .i64 q2, .slice Q3 wh.length c3, .int .i64 q4, .string q5, .slice Q6 ret.length c6], .slice A t.length c] w fun e w' => ∃ Ac cc Al cl, e = .returned (.agg #[.slice Ac code.length cc, .slice Al cols.length cl]) ∧ Kd.R k47 47 w' w.heap.size (fun _ => True) (.slice Ac code.length cc) code ∧ Kd.S (Kd.slice 3 (Kd.int .i64)) 48 w' w.heap.size (fun _ => True) (.slice Al cols.length cl) cols ∧ Below w.heap.size w w' :=
 (code_Compile Q0 c0 its q1 q2 Q3 c3 wh q4 q5 Q6 c6 ret T0 tc types A c t w G hq hty htc hts ht hsz).mono fun e w' ⟨vc, vl, he, hR, hS, hb⟩ => by
  rw [hcv] at hR hS
  obtain ⟨Ac, cc, rfl⟩ := Kd.R_slice hR
  obtain ⟨Al, cl, rfl⟩ := Kd.S_slice hS
  exact ⟨Ac, cc, Al, cl, he, hR, hS, hb⟩
def RelA (w8 : World) (bP bK : Nat) (Ap : Option Addr) (cp : Nat) (code : List S47) (Al : Option Addr) (cl : Nat) (cols : List (List Int)) (us : List Value) (Ae : Option Addr) (ce : Nat) (vl v : Value) (w' : World) : Prop :=
 ∃ (i : Nat) (f : Nat → Nat) (lg : List Value), v = .int .i64 (i : Int) ∧ i ≤ cols.length ∧ Aside0 (w'.ownsRow w8.heap.size 48 1 vl lg.length lg) ∧ Aside0 (Fam (Kd.int .i64) 3 w' bP (fun _ => True) f us cols) ∧ Aside0 (Fam (Kd.int .i64) 3 w' bP (fun _ => True) f lg (mk4 cols i)) ∧ Aside0 (w'.ownsRow bP 48 1 (.slice Al cols.length cl) us.length us) ∧ Aside0 (k47.R 47 w' bP (fun _ => True) (.slice Ap code.length cp) code) ∧ Aside0 (k47.R 47 w' bP (fun _ => True) (.slice Ae (code.length + 1) ce) (code ++ [(⟨0, 0, 0, -1, 0⟩ : S47)])) ∧ Aside0 (Chg (SS bP bK w8.heap.size) w8 w')
def RelB (w8 : World) (bP bK : Nat) (Ap : Option Addr) (cp : Nat) (code : List S47) (Al : Option Addr) (cl : Nat) (cols : List (List Int)) (us : List Value) (f : Nat → Nat) (v : Value) (w' : World) : Prop :=
 ∃ i : Nat, v = .int .i64 (i : Int) ∧ i ≤ cols.length ∧ Aside0 (Fam (Kd.int .i64) 3 w' bP (fun _ => True) f us (mk1 m55 cols i)) ∧ Aside0 (w'.ownsRow bP 48 1 (.slice Al cols.length cl) us.length us) ∧ Aside0 (k47.R 47 w' bP (fun _ => True) (.slice Ap code.length cp) code) ∧ Aside0 (Chg (SS bP bK w8.heap.size) w8 w')
def RelB2 (w8 : World) (bP bK : Nat) (Ap : Option Addr) (cp : Nat) (code : List S47) (Al : Option Addr) (cl : Nat) (cols : List (List Int)) (us : List Value) (f : Nat → Nat) (i : Nat) (v : Value) (w' : World) : Prop :=
 ∃ k : Nat, v = .int .i64 (k : Int) ∧ k ≤ (cols.getD i []).length ∧ Aside0 (Fam (Kd.int .i64) 3 w' bP (fun _ => True) f us (mk2 m55 cols i k)) ∧ Aside0 (w'.ownsRow bP 48 1 (.slice Al cols.length cl) us.length us) ∧ Aside0 (k47.R 47 w' bP (fun _ => True) (.slice Ap code.length cp) code) ∧ Aside0 (Chg (SS bP bK w8.heap.size) w8 w')
def RelC (w8 : World) (bP bK : Nat) (Ap : Option Addr) (cp : Nat) (code : List S47) (v : Value) (w' : World) : Prop :=
 ∃ (i : Nat) (xs : List S47), v = .int .i64 (i : Int) ∧ i ≤ code.length ∧ xs.length = code.length ∧ Aside0 (k47.R 47 w' bP (fun _ => True) (.slice Ap code.length cp) xs) ∧ Aside0 (Chg (SS bP bK w8.heap.size) w8 w')
def RelD (w8 : World) (bP bK : Nat) (code : List S47) (cols : List (List Int)) (vc vd v : Value) (w' : World) : Prop :=
 ∃ (i : Nat) (f g : Nat → Nat) (us vs : List Value), v = .int .i64 (i : Int) ∧ i ≤ 3 ∧ Aside0 (w'.ownsRow w8.heap.size 48 1 vc us.length us) ∧ Aside0 (Fam (Kd.int .i64) 3 w' w8.heap.size (fun _ => True) f us (repC cols i)) ∧ Aside0 (w'.ownsRow w8.heap.size 39 1 vd vs.length vs) ∧ Aside0 (Fam k47 47 w' w8.heap.size (fun _ => True) g vs (List.replicate i code)) ∧ Aside0 (Chg (SS bP bK w8.heap.size) w8 w')
set_option maxHeartbeats 8000000 in
set_option maxRecDepth 100000 in
theorem code_spares (Q0 : Option Addr) (c0 : Nat) (its : List S67) (q1 q2 : Int) (Q3 : Option Addr) (c3 : Nat) (wh : List S61) (q4 : Int) (q5 : ByteArray) (Q6 : Option Addr) (c6 : Nat) (ret : List (List S61)) (w : World) (G : Glob w) (GK : GlobK w) (hq : QReads w Q0 c0 its q1 q2 Q3 c3 wh q4 q5 Q6 c6 ret) (hw3 : wh.length < 17592186044416) (hr1 : ret.length < 17592186044416) (hr2 : ∀ l ∈ ret, l.length < 17592186044416)
  (T0 : Option Addr) (tc : Nat) (types : List S65) (hty : Kd.C k65 w T0 types.length types) (htc : types.length ≤ tc) (hts : types.length ≤ 4398046511104) (A : Option Addr) (c : Nat) (t : List S61) (ht : Kd.C k61 w A t.length t) (hc : t.length ≤ c) (hsz : t.length ≤ 2199023255488)
  (AL : Option Addr) (cL : Nat) (L : List (List S73)) (each at_ : Int) (hL : Kd.C (Kd.slice 73 k73) w AL L.length L) (hLn : L.length ≤ 5864062014805) (hat : -9223372036854775808 ≤ at_) (hat2 : at_ ≤ 9223372036854775807) :
  Calls Tryd.prog 3 #[.agg #[.slice T0 types.length tc], .agg #[.slice Q0 its.length c0, .int .i64 q1, .int .i64 q2, .slice Q3 wh.length c3, .int .i64 q4, .string q5, .slice Q6 ret.length c6], .slice A t.length c, .agg #[.slice AL L.length cL, .int .i64 each, .int .i64 at_]] w fun e w' => e = .returned (.bool true) ∧ Below w.heap.size w w' := by
 obtain ⟨kq, qb, hqb⟩ := tot_qb its q1 q2 wh q4 q5 ret hw3 hr1 hr2
 obtain ⟨kt, tb, htb⟩ := tot_beyond t (by omega)
 have HQB := am hqb
 have HTB := am htb
 have HG := am G
 have HGK := am GK
 have HQ := am hq
 have HTY := am hty
 have HTC := am htc
 have HTS := am hts
 have HP := am ht
 have HPC := am hc
 have HS := am hsz
 have HL := am hL
 have HLN := am hLn
 have HAT := am hat
 have HAT2 := am hat2
 have HB := am (Below.refl w.heap.size w)
 clear hqb htb G GK hq hw3 hr1 hr2 hty htc hts ht hc hsz hL hLn hat hat2
 cases qb
 ·cases tb
  ·cases hbe : bey L 0
   ·have HBE := am hbe
    clear hbe
    obtain ⟨⟨code, cols⟩, hcv⟩ : ∃ cv, compV types its t = cv := ⟨_, rfl⟩
    have hbd := comp_bound types its t
    have hall := comp_all types its t
    rw [hcv] at hbd hall
    have hcl : 2 * code.length ≤ 3 * t.length := hbd.1
    have hkl : 2 * cols.length ≤ t.length + 1 := hbd.2
    have hsz := HS.out
    have hts := HTS.out
    have HCV := am hcv
    have HCN := am (show code.length ≤ 3298534883328 from by omega)
    have HKN := am (show cols.length ≤ 1099511627776 from by omega)
    have HALL := am (show ∀ l ∈ cols, l.length ≤ 4398046511104 from fun l hl => by rw [hall l hl]; exact hts)
    have HROW := am (show ∀ i, i < cols.length → (cols.getD i []).length ≤ 4398046511104 from fun i hi => HALL.out _ (by rw [List.getD_eq_getElem?_getD, List.getElem?_eq_getElem hi]; exact List.getElem_mem hi))
    have HTW := am (tw_f code cols (by have := HCN.out; omega) (by have := HKN.out; omega) (fun l hl => by have := HALL.out l hl; omega))
    obtain ⟨ks, hsm⟩ := sm_f code cols (by have := HCN.out; omega) (by have := HKN.out; omega) (fun l hl => by have := HALL.out l hl; omega)
    have HSM := am hsm
    obtain ⟨⟨⟨bv, nv⟩, ev⟩, hrv⟩ : ∃ rv, runV code cols L each at_ = rv := ⟨_, rfl⟩
    have HRV := am hrv
    have HBL := am (bey_le L 0 HBE.out)
    clear hcv hbd hall hcl hkl hsz hts hsm hrv
    have tok1 : True := trivial
    have tok2 : True := trivial
    have tok3 : True := trivial
    have tok4 : True := trivial
    go_enter Tryd.func3, Tryd.ntmps3
    go_wp2_with (first | ((with_reducible refine gate_dst (N := 4) rfl ?_); refine box_event ?hg (N := 4) ?hd (cs := #[.slice T0 types.length tc]) (t := 24) ?hr ?_; (case hd => rfl); (case hg => rfl); (case hr => first | (go_simp; done) | (go_simp; rfl)); intro g4 hg_ W1 hbox hb; have GE_g4 := ge1 hg_ HB; replace HB := bs HB hb; have BK_g4 := am hbox; have c_g4 := cf1 BK_g4; clear hb hbox hg_) | ((with_reducible refine gate_dst (N := 5) rfl ?_); refine box_event ?hg (N := 5) ?hd (cs := #[.slice Q0 its.length c0, .int .i64 q1, .int .i64 q2, .slice Q3 wh.length c3, .int .i64 q4, .string q5, .slice Q6 ret.length c6]) (t := 31) ?hr ?_; (case hd => rfl); (case hg => rfl); (case hr => first | (go_simp; done) | (go_simp; rfl)); intro g5 hg_ W2 hbox hb; have GE_g5 := ge1 hg_ HB; have NE_g5_g4 := ne1 hg_ BK_g4; have NE_g4_g5 := ne2 NE_g5_g4; replace HB := bs HB hb; (try clear c_g4); replace BK_g4 := bb BK_g4 hb; have c_g4 := cf1 BK_g4; have BK_g5 := am hbox; have c_g5 := cf7 BK_g5; clear hb hbox hg_) | ((with_reducible refine gate_dst (N := 7) rfl ?_); refine box_event ?hg (N := 7) ?hd (cs := #[.slice AL L.length cL, .int .i64 each, .int .i64 at_]) (t := 34) ?hr ?_; (case hd => rfl); (case hg => rfl); (case hr => first | (go_simp; done) | (go_simp; rfl)); intro g7 hg_ W3 hbox hb; have GE_g7 := ge1 hg_ HB; have NE_g7_g4 := ne1 hg_ BK_g4; have NE_g4_g7 := ne2 NE_g7_g4; have NE_g7_g5 := ne1 hg_ BK_g5; have NE_g5_g7 := ne2 NE_g7_g5; replace HB := bs HB hb; (try clear c_g4); replace BK_g4 := bb BK_g4 hb; have c_g4 := cf1 BK_g4; (try clear c_g5); replace BK_g5 := bb BK_g5 hb; have c_g5 := cf7 BK_g5; have BK_g7 := am hbox; have c_g7 := cf3 BK_g7; clear hb hbox hg_) | (go_at_call 4; refine (sluiceref6_QueryBeyond.calls kq Q0 c0 its q1 q2 Q3 c3 wh q4 q5 Q6 c6 ret false _ (Kd.C_below HQ.out.1 HB.out) HQ.out.2.1 (Kd.C_below HQ.out.2.2.1 HB.out) HQ.out.2.2.2.1 (Kd.C_below HQ.out.2.2.2.2.1 HB.out) HQ.out.2.2.2.2.2.1 HQB.out).mono ?_; rintro e W4 ⟨rfl, hb⟩; replace HB := bs HB hb; (try clear c_g4); replace BK_g4 := bb BK_g4 hb; have c_g4 := cf1 BK_g4; (try clear c_g5); replace BK_g5 := bb BK_g5 hb; have c_g5 := cf7 BK_g5; (try clear c_g7); replace BK_g7 := bb BK_g7 hb; have c_g7 := cf3 BK_g7; clear hb) | (go_at_call 5; refine (sluiceref6_Beyond.calls kt A c t false _ (Kd.C_below HP.out HB.out) HPC.out HTB.out).mono ?_; rintro e W5 ⟨rfl, hb⟩; replace HB := bs HB hb; (try clear c_g4); replace BK_g4 := bb BK_g4 hb; have c_g4 := cf1 BK_g4; (try clear c_g5); replace BK_g5 := bb BK_g5 hb; have c_g5 := cf7 BK_g5; (try clear c_g7); replace BK_g7 := bb BK_g7 hb; have c_g7 := cf3 BK_g7; clear hb) | (go_at_call 6; refine (ref7_Beyond AL cL L _ (Kd.C_below HL.out HB.out) HLN.out).mono ?_; rintro e W6 ⟨rfl, hw_⟩; subst hw_; rw [HBE.out]) | (go_at_call 7; refine (law7_awake _ (HG.out.below HB.out) (HGK.out.below HB.out)).mono ?_; rintro e W6 ⟨rfl, hb⟩; replace HB := bs HB hb; (try clear c_g4); replace BK_g4 := bb BK_g4 hb; have c_g4 := cf1 BK_g4; (try clear c_g5); replace BK_g5 := bb BK_g5 hb; have c_g5 := cf7 BK_g5; (try clear c_g7); replace BK_g7 := bb BK_g7 hb; have c_g7 := cf3 BK_g7; clear hb) | (go_at_call 8; have hid_ := tok1; clear tok1 hid_; refine (comp_is Q0 c0 its q1 q2 Q3 c3 wh q4 q5 Q6 c6 ret T0 tc types A c t _ (HGK.out.below HB.out) (HQ.out.below HB.out) (Kd.C_below HTY.out HB.out) HTC.out HTS.out (Kd.C_below HP.out HB.out) HS.out code cols HCV.out).mono ?_; rintro e W7 ⟨Ap, cp, Al, cl, rfl, hRc, hSl, hb⟩; have HRp := am hRc; have HSp := am hSl; have HZ1 := am (show w.heap.size ≤ W6.heap.size from HB.out.size); have HZ2 := am (show W6.heap.size ≤ W7.heap.size from hb.size); have LQ_g4 := am (show g4 < W6.heap.size from blk_lt BK_g4.out); have LQ_g5 := am (show g5 < W6.heap.size from blk_lt BK_g5.out); have LQ_g7 := am (show g7 < W6.heap.size from blk_lt BK_g7.out); replace HB := bs HB hb; (try clear c_g4); replace BK_g4 := bb BK_g4 hb; have c_g4 := cf1 BK_g4; (try clear c_g5); replace BK_g5 := bb BK_g5 hb; have c_g5 := cf7 BK_g5; (try clear c_g7); replace BK_g7 := bb BK_g7 hb; have c_g7 := cf3 BK_g7; have HJ1 := am (Below.refl W7.heap.size W7); clear hb hRc hSl) | ((with_reducible refine gate_dst (N := 9) rfl ?_); refine box_event ?hg (N := 9) ?hd (cs := #[.slice none 0 0, .slice none 0 0]) (t := 42) ?hr ?_; (case hd => rfl); (case hg => rfl); (case hr => first | (go_simp; done) | (go_simp; rfl)); intro g9 hg_ W8 hbox hb; have GHJ1_g9 := ge1 hg_ HJ1; have GE_g9 := ge1 hg_ HB; have NE_g9_g4 := ne1 hg_ BK_g4; have NE_g4_g9 := ne2 NE_g9_g4; have NE_g9_g5 := ne1 hg_ BK_g5; have NE_g5_g9 := ne2 NE_g9_g5; have NE_g9_g7 := ne1 hg_ BK_g7; have NE_g7_g9 := ne2 NE_g9_g7; replace HB := bs HB hb; (try clear c_g4); replace BK_g4 := bb BK_g4 hb; have c_g4 := cf1 BK_g4; (try clear c_g5); replace BK_g5 := bb BK_g5 hb; have c_g5 := cf7 BK_g5; (try clear c_g7); replace BK_g7 := bb BK_g7 hb; have c_g7 := cf3 BK_g7; replace HJ1 := bs HJ1 hb; have BK_g9 := am hbox; have c_g9 := cf2 BK_g9; clear hb hbox hg_) | ((with_reducible refine gate_store (t := 42) (p := 9) rfl ?_); refine store_event (t := 42) (p := 9) (v := ?vo_W9_1) (w1 := ?w1_W9_2) ?hg ?ho ?hn ?hr ?_; (case ho => rfl); (case hg => rfl); (case hn => rfl); (case hr => first | (go_simp; done) | (go_simp; rfl)); intro W9 hw; have hk := kb2 hw; replace HJ1 := sb2 HJ1 GHJ1_g9 hw; replace HB := sb2 HB GE_g9 hw; (try clear c_g4); replace BK_g4 := bk BK_g4 hk NE_g4_g9; have c_g4 := cf1 BK_g4; (try clear c_g5); replace BK_g5 := bk BK_g5 hk NE_g5_g9; have c_g5 := cf7 BK_g5; (try clear c_g7); replace BK_g7 := bk BK_g7 hk NE_g7_g9; have c_g7 := cf3 BK_g7; (try clear c_g9); replace BK_g9 := bp2 BK_g9 hw; have c_g9 := cf2 BK_g9; clear hk hw) | (go_at_call 9; refine (sluicelaw7_twinProgram.calls (cols.length + 1) Ap cp code Al cl cols code cols _ (Kd.R_reads' (Kd.R_below HRp.out HJ1.out)).2.2 (Kd.R_reads' HRp.out).2.1 (Kd.S_reads' (Kd.S_below HSp.out HJ1.out)).2.2 (Kd.S_reads' HSp.out).2.1 HTW.out).mono ?_; rintro e W10 ⟨v0_, v1_, rfl, hR_, hS_, hb⟩; obtain ⟨Ak, ck, rfl⟩ := Kd.R_slice hR_; obtain ⟨Bk, dk, rfl⟩ := Kd.S_slice hS_; have HRk := am hR_; have HSk := am (Kd.S_R hS_); have HZ4 := am (show W7.heap.size ≤ W9.heap.size from HJ1.out.size); replace HB := bs HB hb; (try clear c_g4); replace BK_g4 := bb BK_g4 hb; have c_g4 := cf1 BK_g4; (try clear c_g5); replace BK_g5 := bb BK_g5 hb; have c_g5 := cf7 BK_g5; (try clear c_g7); replace BK_g7 := bb BK_g7 hb; have c_g7 := cf3 BK_g7; (try clear c_g9); replace BK_g9 := bb BK_g9 hb; have c_g9 := cf2 BK_g9; replace HJ1 := bs HJ1 hb; have HJ2 := am (Below.refl W10.heap.size W10); clear hb hR_ hS_) | ((with_reducible refine gate_dst (N := 10) rfl ?_); refine box_event ?hg (N := 10) ?hd (cs := #[.slice none 0 0, .slice none 0 0]) (t := 42) ?hr ?_; (case hd => rfl); (case hg => rfl); (case hr => first | (go_simp; done) | (go_simp; rfl)); intro g10 hg_ W11 hbox hb; have GHJ1_g10 := ge1 hg_ HJ1; have GHJ2_g10 := ge1 hg_ HJ2; have GE_g10 := ge1 hg_ HB; have NE_g10_g4 := ne1 hg_ BK_g4; have NE_g4_g10 := ne2 NE_g10_g4; have NE_g10_g5 := ne1 hg_ BK_g5; have NE_g5_g10 := ne2 NE_g10_g5; have NE_g10_g7 := ne1 hg_ BK_g7; have NE_g7_g10 := ne2 NE_g10_g7; have NE_g10_g9 := ne1 hg_ BK_g9; have NE_g9_g10 := ne2 NE_g10_g9; replace HB := bs HB hb; (try clear c_g4); replace BK_g4 := bb BK_g4 hb; have c_g4 := cf1 BK_g4; (try clear c_g5); replace BK_g5 := bb BK_g5 hb; have c_g5 := cf7 BK_g5; (try clear c_g7); replace BK_g7 := bb BK_g7 hb; have c_g7 := cf3 BK_g7; (try clear c_g9); replace BK_g9 := bb BK_g9 hb; have c_g9 := cf2 BK_g9; replace HJ1 := bs HJ1 hb; replace HJ2 := bs HJ2 hb; have BK_g10 := am hbox; have c_g10 := cf2 BK_g10; clear hb hbox hg_) | ((with_reducible refine gate_store (t := 42) (p := 10) rfl ?_); refine store_event (t := 42) (p := 10) (v := ?vo_W12_3) (w1 := ?w1_W12_4) ?hg ?ho ?hn ?hr ?_; (case ho => rfl); (case hg => rfl); (case hn => rfl); (case hr => first | (go_simp; done) | (go_simp; rfl)); intro W12 hw; have hk := kb2 hw; replace HJ1 := sb2 HJ1 GHJ1_g10 hw; replace HJ2 := sb2 HJ2 GHJ2_g10 hw; replace HB := sb2 HB GE_g10 hw; (try clear c_g4); replace BK_g4 := bk BK_g4 hk NE_g4_g10; have c_g4 := cf1 BK_g4; (try clear c_g5); replace BK_g5 := bk BK_g5 hk NE_g5_g10; have c_g5 := cf7 BK_g5; (try clear c_g7); replace BK_g7 := bk BK_g7 hk NE_g7_g10; have c_g7 := cf3 BK_g7; (try clear c_g9); replace BK_g9 := bk BK_g9 hk NE_g9_g10; have c_g9 := cf2 BK_g9; (try clear c_g10); replace BK_g10 := bp2 BK_g10 hw; have c_g10 := cf2 BK_g10; clear hk hw) | (go_at_call 8; refine (comp_is Q0 c0 its q1 q2 Q3 c3 wh q4 q5 Q6 c6 ret T0 tc types A c t _ (HGK.out.below HB.out) (HQ.out.below HB.out) (Kd.C_below HTY.out HB.out) HTC.out HTS.out (Kd.C_below HP.out HB.out) HS.out code cols HCV.out).mono ?_; rintro e W13 ⟨Ao, co, Bo, eo, rfl, hRc, hSl, hb⟩; have HRo := am hRc; have HSo := am hSl; have HZ5 := am (show W7.heap.size ≤ W12.heap.size from HJ1.out.size); replace HB := bs HB hb; (try clear c_g4); replace BK_g4 := bb BK_g4 hb; have c_g4 := cf1 BK_g4; (try clear c_g5); replace BK_g5 := bb BK_g5 hb; have c_g5 := cf7 BK_g5; (try clear c_g7); replace BK_g7 := bb BK_g7 hb; have c_g7 := cf3 BK_g7; (try clear c_g9); replace BK_g9 := bb BK_g9 hb; have c_g9 := cf2 BK_g9; (try clear c_g10); replace BK_g10 := bb BK_g10 hb; have c_g10 := cf2 BK_g10; replace HJ1 := bs HJ1 hb; replace HJ2 := bs HJ2 hb; have HJ3 := am (Below.refl W13.heap.size W13); clear hb hRc hSl) | ((with_reducible refine gate_dst (N := 11) rfl ?_); refine box_event ?hg (N := 11) ?hd (cs := #[.slice none 0 0, .slice none 0 0]) (t := 42) ?hr ?_; (case hd => rfl); (case hg => rfl); (case hr => first | (go_simp; done) | (go_simp; rfl)); intro g11 hg_ W14 hbox hb; have GHJ1_g11 := ge1 hg_ HJ1; have GHJ2_g11 := ge1 hg_ HJ2; have GHJ3_g11 := ge1 hg_ HJ3; have GE_g11 := ge1 hg_ HB; have NE_g11_g4 := ne1 hg_ BK_g4; have NE_g4_g11 := ne2 NE_g11_g4; have NE_g11_g5 := ne1 hg_ BK_g5; have NE_g5_g11 := ne2 NE_g11_g5; have NE_g11_g7 := ne1 hg_ BK_g7; have NE_g7_g11 := ne2 NE_g11_g7; have NE_g11_g9 := ne1 hg_ BK_g9; have NE_g9_g11 := ne2 NE_g11_g9; have NE_g11_g10 := ne1 hg_ BK_g10; have NE_g10_g11 := ne2 NE_g11_g10; replace HB := bs HB hb; (try clear c_g4); replace BK_g4 := bb BK_g4 hb; have c_g4 := cf1 BK_g4; (try clear c_g5); replace BK_g5 := bb BK_g5 hb; have c_g5 := cf7 BK_g5; (try clear c_g7); replace BK_g7 := bb BK_g7 hb; have c_g7 := cf3 BK_g7; (try clear c_g9); replace BK_g9 := bb BK_g9 hb; have c_g9 := cf2 BK_g9; (try clear c_g10); replace BK_g10 := bb BK_g10 hb; have c_g10 := cf2 BK_g10; replace HJ1 := bs HJ1 hb; replace HJ2 := bs HJ2 hb; replace HJ3 := bs HJ3 hb; have BK_g11 := am hbox; have c_g11 := cf2 BK_g11; clear hb hbox hg_) | ((with_reducible refine gate_store (t := 42) (p := 11) rfl ?_); refine store_event (t := 42) (p := 11) (v := ?vo_W15_5) (w1 := ?w1_W15_6) ?hg ?ho ?hn ?hr ?_; (case ho => rfl); (case hg => rfl); (case hn => rfl); (case hr => first | (go_simp; done) | (go_simp; rfl)); intro W15 hw; have hk := kb2 hw; replace HJ1 := sb2 HJ1 GHJ1_g11 hw; replace HJ2 := sb2 HJ2 GHJ2_g11 hw; replace HJ3 := sb2 HJ3 GHJ3_g11 hw; replace HB := sb2 HB GE_g11 hw; (try clear c_g4); replace BK_g4 := bk BK_g4 hk NE_g4_g11; have c_g4 := cf1 BK_g4; (try clear c_g5); replace BK_g5 := bk BK_g5 hk NE_g5_g11; have c_g5 := cf7 BK_g5; (try clear c_g7); replace BK_g7 := bk BK_g7 hk NE_g7_g11; have c_g7 := cf3 BK_g7; (try clear c_g9); replace BK_g9 := bk BK_g9 hk NE_g9_g11; have c_g9 := cf2 BK_g9; (try clear c_g10); replace BK_g10 := bk BK_g10 hk NE_g10_g11; have c_g10 := cf2 BK_g10; (try clear c_g11); replace BK_g11 := bp2 BK_g11 hw; have c_g11 := cf2 BK_g11; clear hk hw; clear c_g4 c_g5 c_g7 c_g9 c_g10 c_g11; have HZ := am (show w.heap.size ≤ W6.heap.size ∧ W6.heap.size ≤ W7.heap.size ∧ W7.heap.size ≤ W15.heap.size from ⟨HZ1.out, HZ2.out, HJ1.out.size⟩); obtain ⟨bP, hbP⟩ : ∃ bP, bP = W6.heap.size := ⟨_, rfl⟩; obtain ⟨bK, hbK⟩ : ∃ bK, bK = W7.heap.size := ⟨_, rfl⟩; have HRp' := am (show k47.R 47 W7 bP (fun _ => True) (.slice Ap code.length cp) code from hbP ▸ HRp.out); have HKc := am (show ∀ k, (Value.slice Ap code.length cp).ownBlock = some k → bP ≤ k ∧ k < bK from fun k hk => ⟨Kd.R_base HRp'.out k hk, hbK ▸ Kd.R_lt HRp'.out k hk⟩); have hSp_ := HSp.out; rw [← hbP] at hSp_; have HKl := am (show ∀ k, (Value.slice Al cols.length cl).ownBlock = some k → bP ≤ k ∧ k < bK from fun k hk => ⟨Kd.S_base hSp_ k hk, hbK ▸ Kd.S_lt hSp_ k hk⟩); have HCL := am (show cols.length ≤ cl from (Kd.S_reads' hSp_).2.1); obtain ⟨f, us, ho_, hf_⟩ := S_fam hSp_; have HKf := am (show ∀ j, j < cols.length → ∀ k, (us.getD j undef).ownBlock = some k → bP ≤ k ∧ k < bK from fun j hj k hk => ⟨Kd.R_base (hf_.row j hj) k hk, hbK ▸ Kd.R_lt (hf_.row j hj) k hk⟩); have HUV := am (show ∀ i, i < cols.length → ∃ Ai ci, us.getD i undef = .slice Ai (cols.getD i []).length ci from fun i hi => Kd.R_slice (hf_.row i hi)); have HUL := am (show us.length = cols.length from hf_.len); have HAD := am (show 0 < cols.length → ∃ gl, Al = some ⟨gl, 0, none⟩ from fun hp => by rcases ho_.2 with ⟨e_, h0⟩ | ⟨g, cap, cur, e_, _⟩; (have := hf_.len; omega); (injection e_ with e1_ _ _; exact ⟨g, e1_⟩)); have XC := am (Kd.R_below HRp'.out HJ1.out); have XO := am (own_below ho_ HJ1.out); have XF := am (show Fam (Kd.int .i64) 3 W15 bP (fun _ => True) f us cols from Fam.below hf_ HJ1.out); have YK := am (Kd.R_mono (Kd.R_bound (Kd.R_below HRk.out HJ2.out)) (fun k hk => (⟨Nat.le_trans (Nat.le_of_eq hbK) (Nat.le_trans HZ4.out hk.2.1), hk.2.2.1⟩ : bK ≤ k ∧ k < W15.heap.size))); have YL := am (Kd.R_mono (Kd.R_bound (Kd.R_below HSk.out HJ2.out)) (fun k hk => (⟨Nat.le_trans (Nat.le_of_eq hbK) (Nat.le_trans HZ4.out hk.2.1), hk.2.2.1⟩ : bK ≤ k ∧ k < W15.heap.size))); have ZO := am (Kd.R_mono (Kd.R_bound (Kd.R_below HRo.out HJ3.out)) (fun k hk => (⟨Nat.le_trans (Nat.le_of_eq hbK) (Nat.le_trans HZ5.out hk.2.1), hk.2.2.1⟩ : bK ≤ k ∧ k < W15.heap.size))); have ZL := am (Kd.R_mono (Kd.R_bound (Kd.R_below (Kd.S_R HSo.out) HJ3.out)) (fun k hk => (⟨Nat.le_trans (Nat.le_of_eq hbK) (Nat.le_trans HZ5.out hk.2.1), hk.2.2.1⟩ : bK ≤ k ∧ k < W15.heap.size))); have LH_g9 := am (show bK ≤ g9 from hbK ▸ GHJ1_g9.out); have LH_g10 := am (show bK ≤ g10 from hbK ▸ GHJ1_g10.out); have LH_g11 := am (show bK ≤ g11 from hbK ▸ GHJ1_g11.out); have HZn := am (show w.heap.size ≤ bP ∧ bP ≤ bK ∧ bK ≤ W15.heap.size from by rw [hbP, hbK]; exact HZ.out); clear HZ; have HZ := HZn; clear HZn; replace LQ_g4 := am (show g4 < bP from hbP ▸ LQ_g4.out); replace LQ_g5 := am (show g5 < bP from hbP ▸ LQ_g5.out); replace LQ_g7 := am (show g7 < bP from hbP ▸ LQ_g7.out); have NS_g4 := am (ss_low (c := W15.heap.size) LQ_g4.out HZ.out.2.1 HZ.out.2.2); have NS_g5 := am (ss_low (c := W15.heap.size) LQ_g5.out HZ.out.2.1 HZ.out.2.2); have NS_g7 := am (ss_low (c := W15.heap.size) LQ_g7.out HZ.out.2.1 HZ.out.2.2); have NS_g9 := am (ss_hi (a := bP) LH_g9.out BK_g9.out); have NS_g10 := am (ss_hi (a := bP) LH_g10.out BK_g10.out); have NS_g11 := am (ss_hi (a := bP) LH_g11.out BK_g11.out); have HC := am (Chg.refl (SS bP bK W15.heap.size) W15); have HB8 := HB; clear HB hSp_ ho_ hf_ hbP hbK HRp HRp' HSp HRk HSk HRo HSo HJ1 HJ2 HJ3 HZ1 HZ2 HZ4 HZ5; have c_g9 := cf2 (bch BK_g9 HC NS_g9)) | ((with_reducible refine gate_builtin (b := .append) (xs := #[.tmp 53, .tmp 55]) rfl ?_); at_builtin; refine R_append_kept k47 bP rfl (.tmp 53) (.tmp 55) 39 47 (.agg #[.int .i64 0, .int .i64 0, .int .i64 0, .int .i64 0, .int .i64 0]) 40 rfl Tryd.underlying39 info47 rfl (by decide) (by omega) _ code (⟨0, 0, 0, -1, 0⟩ : S47) [.int .i64 0, .int .i64 0, .int .i64 0, .int .i64 (-1), .int .i64 0] (fun _ => True) (fun _ => False) rfl ?aX ?aP (fun _ hk => hk.elim) (fun _ _ => trivial) XC.out (Nat.le_trans HZ.out.2.1 (Nat.le_trans HZ.out.2.2 HC.out.size)) ?aL ?_; (case aX => first | rfl | (show Value.slice _ _ _ = Value.slice _ _ _; simp)); (case aP => exact k47_mkM _ _ _ _); (case aL => have := HCN.out; omega); intro v1 V1 ho_ hkp_ hg_ hat_; obtain ⟨Ae, ce, hv_⟩ := Kd.R_slice ho_; rw [List.length_append, List.length_singleton] at hv_; subst hv_; have XE := am ho_; have HTY_ := am (fun q hq => Kd.R_typed XC.out q hq); (try clear c_g9); replace HC := am (HC.out.grown_ hg_ (fun k hk => Or.inl (HKc.out k hk))); replace XF := am (Fam.over XF.out hg_ HTY_.out (by decide)); replace XO := am (own_over XO.out hg_ HTY_.out (by decide)); clear XC; have XC := am hkp_; clear ho_ hkp_ hg_ hat_ HTY_))
    go_loopw [13, 14] (fun vl v w' => RelA W15 bP bK Ap cp code Al cl cols us Ae ce vl v w') (fun _ v _ => cols.length - (intOf v).toNat)
    case atStart => exact ⟨0, f, [], rfl, Nat.zero_le _, ⟨World.ownsRow_nil _ _ _ _⟩, XF, ⟨Fam.nil _ _ _ _ _ _⟩, XO, XC, XE, HC⟩
    case round =>
     clear XF XO XC XE HC
     obtain ⟨i, f, lg, rfl, hi, HLO, XF, XG, XO, XC, XE, HC⟩ := hrel
     have HI := am hi
     clear hi
     by_cases hlt : i < cols.length
     ·obtain ⟨gl, rfl⟩ := HAD.out (by omega)
      obtain ⟨Ai, ci, hui⟩ := HUV.out i hlt
      obtain ⟨r, hrr⟩ : ∃ r, r = cols.getD i [] := ⟨_, rfl⟩
      have HRW := am hrr
      rw [← hrr] at hui
      have HUI := am hui
      have HRL := am (show r.length ≤ 4398046511104 from by rw [hrr]; exact HROW.out i hlt)
      clear hui hrr
      have eI : wrap64 ((i : Int) + 1) = (i : Int) + 1 := IntWalk.wrap64_in _ (by have := HKN.out; omega)
      have eM : wrap64 (-100 - (i : Int)) = -100 - (i : Int) := IntWalk.wrap64_in _ (by have := HKN.out; omega)
      obtain ⟨f4, hf4⟩ : ∃ f4 : Nat → Nat, f4 = fun q => if q < wr.heap.size then f q else i := ⟨_, rfl⟩
      have HF4 := am (show ∀ q, wr.heap.size ≤ q → f4 q = i from fun q hq => by rw [hf4]; exact if_neg (by omega))
      have HX := am (show ∀ q, q < wr.heap.size → f4 q = f q from fun q hq => by rw [hf4]; exact if_pos hq)
      clear hf4
      have XF4 := am (XF.out.ext HX.out)
      have XG4 := am (XG.out.ext HX.out)
      clear XF XG HX
      have HR0 := am (show (Kd.int .i64).R 3 wr bP (fun q => f4 q = i ∧ True) (.slice Ai r.length ci) r from by have h_ := XF4.out.row i hlt; rw [HUI.out, ← HRW.out] at h_; exact h_)
      have c_g9 := cf2 (bch BK_g9 HC NS_g9)
      have l0 : wr.cell? ⟨gl, i, none⟩ = some (.slice Ai r.length ci) := (outer_cell XO.out (by rw [HUL.out]; exact hlt)).trans (congrArg some HUI.out)
      go_wp2_with (first | ((with_reducible refine gate_builtin (b := .append) (xs := #[.tmp 69, .tmp 72]) rfl ?_); at_builtin; (try rw [eM]); refine R_append_kept (Kd.int .i64) bP rfl (.tmp 69) (.tmp 72) 48 3 (.int .i64 0) 8 rfl Tryd.underlying48 info3 rfl (by decide) (by omega) _ r (-100 - (i : Int)) [.int .i64 (-100 - (i : Int))] (fun q => f4 q = i ∧ True) (fun _ => False) rfl ?aX ?aP (fun _ hk => hk.elim) (fun q hq => ⟨HF4.out q hq, trivial⟩) HR0.out (Nat.le_trans HZ.out.2.1 (Nat.le_trans HZ.out.2.2 HC.out.size)) ?aL ?_; (case aX => first | rfl | (show Value.slice _ _ _ = Value.slice _ _ _; simp)); (case aP => exact rfl); (case aL => have := HRL.out; omega); intro v1 V22 ho_ hkp_ hg_ hat_; obtain ⟨A1, c1, hv_⟩ := Kd.R_slice ho_; rw [List.length_append, List.length_singleton] at hv_; subst hv_; have HR1 := am ho_; have HTY_ := am (fun q hq => Kd.R_typed HR0.out q hq); have XF5 := am (XF4.out.keep (i := i) (S := fun q => (Value.slice Ai r.length ci).ownBlock = some q) (Chg.of_grown hg_ (fun q hq => hq)) (fun q _ hq => (HR0.out.1 q hq).1) (fun hi_ => by rw [HUI.out, ← HRW.out]; exact hkp_)); have XG5 := am (XG4.out.chg (S := fun q => (Value.slice Ai r.length ci).ownBlock = some q) (Chg.of_grown hg_ (fun q hq => hq)) (fun q _ hlt_ hq => by have h_ := (HR0.out.1 q hq).1; rw [mk4_length] at hlt_; omega)); have HK_ := (show ∀ q, (Value.slice Ai r.length ci).ownBlock = some q → bP ≤ q ∧ q < bK from fun q hq => HKf.out i hlt q (by rw [HUI.out]; exact hq)); (try clear c_g9); clear l0; replace HC := am (HC.out.grown_ hg_ (fun k hk => Or.inl (HK_ k hk))); replace XO := am (own_over XO.out hg_ HTY_.out (by decide)); replace XC := am (R_over3 XC.out hg_ HTY_.out (by decide)); replace XE := am (R_over3 XE.out hg_ HTY_.out (by decide)); replace HLO := am (own_over HLO.out hg_ HTY_.out (by decide)); clear ho_ hkp_ hg_ hat_ HTY_ HK_ HR0 XF4 XG4) | ((with_reducible refine gate_builtin (b := .append) (xs := #[.tmp 64, .tmp 74]) rfl ?_); at_builtin; refine print_append_cells (w0 := V22) W15.heap.size rfl (.tmp 64) (.tmp 74) 40 48 (.slice none 0 0) 1 24 rfl Tryd.underlying40 info48 rfl (by decide) (by decide) _ lg.length lg [(.slice A1 (r.length + 1) c1 : Value)] rfl ?aX rfl ?a1 HLO.out (Below.refl _ _) HC.out.size ?aL ?_; (case aX => first | rfl | (show Value.slice _ _ _ = Value.slice _ _ _; simp)); (case a1 => intro q_ hq_; rw [List.mem_singleton] at hq_; subst hq_; rfl); (case aL => have h_ := XG5.out.len; rw [mk4_length] at h_; have := HKN.out; omega); intro v2 V23 ho_ hb_ hg_ hat_; have HTY_ := am (fun q hq => own_typed HLO.out q hq); have HBS_ := am (fun q hq => own_base HLO.out q hq); replace XC := am (R_over3 XC.out hg_ HTY_.out (by decide)); replace XE := am (R_over3 XE.out hg_ HTY_.out (by decide)); replace XF5 := am (Fam.over XF5.out hg_ HTY_.out (by decide)); replace XG5 := am (Fam.over XG5.out hg_ HTY_.out (by decide)); replace HR1 := am (R_over3 HR1.out hg_ HTY_.out (by decide)); replace XO := am (own_far XO.out hg_ (fun k hk e_ => by have h1 := HBS_.out k e_.symm; have h2 := (HKl.out k hk).2; have h3 := HZ.out.2.2; omega)); replace HC := am (HC.out.grown_ hg_ (fun k hk => Or.inr (HBS_.out k hk))); have HO1 := am ho_; clear ho_ hb_ hg_ hat_ HTY_ HBS_))
      go_roundw
      case rel => first
       | exact ⟨i + 1, f4, lg ++ [(.slice A1 (r.length + 1) c1 : Value)], by first | rfl | (rw [eI]; rfl), hlt, ⟨by rw [List.length_append, List.length_singleton]; exact HO1.out⟩, XF5, ⟨by rw [mk4_succ, ← HRW.out]; exact XG5.out.snoc (by rw [mk4_length]; exact HR1.out)⟩, XO, XC, XE, HC⟩
       | (refine ⟨_, _, _, ?_, rfl, rfl, rfl⟩; exact ⟨i + 1, f4, lg ++ [(.slice A1 (r.length + 1) c1 : Value)], rfl, hlt, ⟨by rw [List.length_append, List.length_singleton]; exact HO1.out⟩, XF5, ⟨by rw [mk4_succ, ← HRW.out]; exact XG5.out.snoc (by rw [mk4_length]; exact HR1.out)⟩, XO, XC, XE, HC⟩)
       | (refine ⟨_, _, _, _, ?_, rfl, rfl, rfl, rfl⟩; exact ⟨i + 1, f4, lg ++ [(.slice A1 (r.length + 1) c1 : Value)], rfl, hlt, ⟨by rw [List.length_append, List.length_singleton]; exact HO1.out⟩, XF5, ⟨by rw [mk4_succ, ← HRW.out]; exact XG5.out.snoc (by rw [mk4_length]; exact HR1.out)⟩, XO, XC, XE, HC⟩)
      case measure => first | exact mu2_ hlt (Int.lt_succ _) | exact mu2_ hlt (by rw [eI]; exact Int.lt_succ _)
     have hi := HI.out
     clear HI
     obtain rfl : i = cols.length := by omega
     clear hi hlt
     have eD : decide ((cols.length : Int) < (cols.length : Int)) = false := decide_eq_false (by omega)
     have c_g9 := cf2 (bch BK_g9 HC NS_g9)
     obtain ⟨ge, ce', hge_, _⟩ := Kd.R_form XE.out (by rw [List.length_append, List.length_singleton]; omega)
     rw [List.length_append, List.length_singleton] at hge_
     injection hge_ with h1_ _ h3_
     subst h1_
     subst h3_
     go_wp2_with (first | ((with_reducible refine gate_dst (N := 78) rfl ?_); refine Kd.event_run (v := .slice (some ⟨wr.heap.size, 0, none⟩) 1 1) (w1 := wr.alloc (.cells #[.int .i64 (-99)] 3)) rfl (by first | (go_simp; done) | (go_simp; rfl)) ?_; have hb := (Below.refl wr.heap.size wr).alloc (Nat.le_refl _) (.cells #[.int .i64 (-99)] 3); obtain ⟨gN, hg_⟩ : ∃ gN, gN = wr.heap.size := ⟨_, rfl⟩; rw [← hg_]; generalize wr.alloc (.cells #[.int .i64 (-99)] 3) = V22 at hb ⊢; (try clear c_g9); replace HC := am (HC.out.step hb); replace XC := bR XC hb; replace XE := bR XE hb; replace XF := am (Fam.below XF.out hb); replace XG := am (Fam.below XG.out hb); replace XO := am (own_below XO.out hb); replace HLO := am (own_below HLO.out hb); have c_g9 := cf2 (bch BK_g9 HC NS_g9); clear hb hg_) | ((with_reducible refine gate_builtin (b := .append) (xs := #[.tmp 77, .tmp 79]) rfl ?_); at_builtin; refine append_kept_cell bP rfl (.tmp 77) (.tmp 79) 40 48 (.slice none 0 0) 24 rfl Tryd.underlying40 info48 rfl (by decide) _ us (.slice (some ⟨gN, 0, none⟩) 1 1 : Value) ?aV ?aX rfl XO.out (Nat.le_trans HZ.out.2.1 (Nat.le_trans HZ.out.2.2 HC.out.size)) ?aL ?_; (case aV => rfl); (case aX => first | rfl | (show Value.slice _ _ _ = Value.slice _ _ _; simp)); (case aL => have := HUL.out; have := HKN.out; omega); intro v1 V23 ho_ hkp_ hg_ hat_; obtain ⟨Ar, cr, hv_⟩ := own_slice ho_; rw [List.length_append, List.length_singleton, HUL.out] at hv_; subst hv_; have HTY_ := am (fun q hq => own_typed XO.out q hq); obtain ⟨gr, hgr_⟩ := own_some ho_; subst hgr_; have XR := am ho_; (try clear c_g9); replace HC := am (HC.out.grown_ hg_ (fun k hk => Or.inl (HKl.out k hk))); replace XC := am (R_over3 XC.out hg_ HTY_.out (by decide)); replace XE := am (R_over3 XE.out hg_ HTY_.out (by decide)); replace XF := am (Fam.over XF.out hg_ HTY_.out (by decide)); replace XG := am (Fam.over XG.out hg_ HTY_.out (by decide)); replace HLO := am (own_far HLO.out hg_ (fun k hk e_ => by have h1 := own_base HLO.out k hk; have h2 := (HKl.out k e_.symm).2; have h3 := HZ.out.2.2; omega)); clear XO; have XO := am hkp_; clear ho_ hkp_ hg_ hat_ HTY_; have c_g11 := cf2 (bch BK_g11 HC NS_g11); have c_g7 := cf3 (bch BK_g7 HC NS_g7)) | (go_at_call 10; refine (run_is Ao co code Bo eo cols AL cL L each at_ _ (HG.out.below (ss_below HB8.out HC.out HZ.out)) (rd_at ZO.out HC.out) (rd_at ZL.out HC.out) (Kd.C_below HL.out (ss_below HB8.out HC.out HZ.out)) HBL.out HAT.out HAT2.out (by have := HCN.out; omega) bv nv ev HRV.out).mono ?_; rintro e V24 ⟨rfl, hb⟩; (try clear c_g11); (try clear c_g7); replace HC := am (HC.out.step hb); replace XC := bR XC hb; replace XE := bR XE hb; replace XF := am (Fam.below XF.out hb); replace XG := am (Fam.below XG.out hb); replace XO := am (own_below XO.out hb); replace XR := am (own_below XR.out hb); replace HLO := am (own_below HLO.out hb); clear hb) | ((with_reducible refine gate_dst (N := 16) rfl ?_); refine box_event ?hg (N := 16) ?hd (cs := #[.bool false, .int .i64 0]) (t := 50) ?hr ?_; (case hd => rfl); (case hg => rfl); (case hr => first | (go_simp; done) | (go_simp; rfl)); intro g16 hg_ V25 hbox hb; have HJ := am hb; have GJ := am (show V24.heap.size ≤ g16 from Nat.le_of_eq hg_.symm); have BK_g16 := am hbox; have c_g16 := cf2 BK_g16; clear hb hbox hg_) | ((with_reducible refine gate_store (t := 50) (p := 16) rfl ?_); refine store_event (t := 50) (p := 16) (v := ?vo_V25_7) (w1 := ?w1_V25_8) ?hg ?ho ?hn ?hr ?_; (case ho => rfl); (case hg => rfl); (case hn => rfl); (case hr => first | (go_simp; done) | (go_simp; rfl)); intro V26 hw; have hb : Below V24.heap.size V24 V26 := (by rw [hw]; exact below_set (below_set (HJ.out) GJ.out) GJ.out); replace BK_g16 := bp2 BK_g16 hw; clear hw c_g16; have GN_g16 := am (Nat.le_trans HC.out.size GJ.out); replace HC := am (HC.out.step hb); replace XC := bR XC hb; replace XE := bR XE hb; replace XF := am (Fam.below XF.out hb); replace XG := am (Fam.below XG.out hb); replace XO := am (own_below XO.out hb); replace XR := am (own_below XR.out hb); replace HLO := am (own_below HLO.out hb); clear hb HJ GJ; have LH_g16 := am (Nat.le_trans HZ.out.2.2 GN_g16.out); have n_ := am (blk_chg BK_g4.out HC.out NS_g4.out); clear BK_g4 NS_g4; have BK_g4 := n_; clear n_; have n_ := am (blk_chg BK_g5.out HC.out NS_g5.out); clear BK_g5 NS_g5; have BK_g5 := n_; clear n_; have n_ := am (blk_chg BK_g7.out HC.out NS_g7.out); clear BK_g7 NS_g7; have BK_g7 := n_; clear n_; have n_ := am (blk_chg BK_g9.out HC.out NS_g9.out); clear BK_g9 NS_g9; have BK_g9 := n_; clear n_; have n_ := am (blk_chg BK_g10.out HC.out NS_g10.out); clear BK_g10 NS_g10; have BK_g10 := n_; clear n_; have n_ := am (blk_chg BK_g11.out HC.out NS_g11.out); clear BK_g11 NS_g11; have BK_g11 := n_; clear n_; replace YK := am (ss_rebase YK.out HC.out); replace YL := am (ss_rebase YL.out HC.out); replace ZO := am (ss_rebase ZO.out HC.out); replace ZL := am (ss_rebase ZL.out HC.out); replace HB8 := am (ss_below HB8.out HC.out HZ.out); replace HZ := am (ss_z HC.out HZ.out); have NS_g4 := am (ss_low (c := V26.heap.size) LQ_g4.out HZ.out.2.1 HZ.out.2.2); have NS_g5 := am (ss_low (c := V26.heap.size) LQ_g5.out HZ.out.2.1 HZ.out.2.2); have NS_g7 := am (ss_low (c := V26.heap.size) LQ_g7.out HZ.out.2.1 HZ.out.2.2); have NS_g9 := am (ss_hi (a := bP) LH_g9.out BK_g9.out); have NS_g10 := am (ss_hi (a := bP) LH_g10.out BK_g10.out); have NS_g11 := am (ss_hi (a := bP) LH_g11.out BK_g11.out); have NS_g16 := am (ss_hi (a := bP) LH_g16.out BK_g16.out); clear HC; have HC := am (Chg.refl (SS bP bK V26.heap.size) V26); have c_g9 := cf2 (bch BK_g9 HC NS_g9); have c_g10 := cf2 (bch BK_g10 HC NS_g10); have c_g11 := cf2 (bch BK_g11 HC NS_g11); have eE1 : wrap64 ((code.length : Int) + 1 - 1) = (code.length : Int) := (by rw [Int.add_sub_cancel]; exact IntWalk.wrap64_in _ (by have := HCN.out; omega)); have eE2 : wrap64 (code.length : Int) = (code.length : Int) := IntWalk.wrap64_in _ (by have := HCN.out; omega); have eR1 : wrap64 ((cols.length : Int) + 1 - 1) = (cols.length : Int) := (by rw [Int.add_sub_cancel]; exact IntWalk.wrap64_in _ (by have := HKN.out; omega)); have eR2 : wrap64 (cols.length : Int) = (cols.length : Int) := IntWalk.wrap64_in _ (by have := HKN.out; omega)) | (go_at_call 11; have hid_ := tok2; clear tok2 hid_; refine (sluicelaw7_sameProgram.calls ks Ap cp code Al cl cols Ak ck code Bk dk cols true _ (Kd.R_reads' XC.out).2.2 (Kd.R_reads' XC.out).2.1 (fam_rd XO.out XF.out) HCL.out (rd_at YK.out HC.out) (Kd.R_reads' YK.out).2.1 (rd_at YL.out HC.out) (Kd.R_reads' YL.out).2.1 HSM.out).mono ?_; rintro e V27 ⟨rfl, hb⟩; (try clear c_g9); (try clear c_g10); (try clear c_g11); replace HC := am (HC.out.step hb); replace XC := bR XC hb; replace XE := bR XE hb; replace XF := am (Fam.below XF.out hb); replace XG := am (Fam.below XG.out hb); replace XO := am (own_below XO.out hb); replace XR := am (own_below XR.out hb); replace HLO := am (own_below HLO.out hb); have c_g10 := cf2 (bch BK_g10 HC NS_g10); have c_g11 := cf2 (bch BK_g11 HC NS_g11); clear hb) | (go_at_call 11; have hid_ := tok3; clear tok3 hid_; refine (sluicelaw7_sameProgram.calls ks Ao co code Bo eo cols Ak ck code Bk dk cols true _ (rd_at ZO.out HC.out) (Kd.R_reads' ZO.out).2.1 (rd_at ZL.out HC.out) (Kd.R_reads' ZL.out).2.1 (rd_at YK.out HC.out) (Kd.R_reads' YK.out).2.1 (rd_at YL.out HC.out) (Kd.R_reads' YL.out).2.1 HSM.out).mono ?_; rintro e V28 ⟨rfl, hb⟩; (try clear c_g10); (try clear c_g11); replace HC := am (HC.out.step hb); replace XC := bR XC hb; replace XE := bR XE hb; replace XF := am (Fam.below XF.out hb); replace XG := am (Fam.below XG.out hb); replace XO := am (own_below XO.out hb); replace XR := am (own_below XR.out hb); replace HLO := am (own_below HLO.out hb); clear hb; have ee : V28.cell? ⟨ge, code.length * 5 + 3, none⟩ = some (.int .i64 (-1)) := (by have h_ := row47 XE.out code.length (by omega) 3 _ rfl; rw [rd_last] at h_; exact h_); have er : V28.cell? ⟨gr, cols.length, none⟩ = some (.slice (some ⟨gN, 0, none⟩) 1 1) := own_last XR.out HUL.out))
     clear ee er eE1 eE2 eR1 eR2 eD
     have HLL := am (show lg.length = cols.length from by have h_ := XG.out.len; rw [mk4_length] at h_; exact h_)
     obtain ⟨Bl, cb, hbv⟩ := own_slice HLO.out
     rw [HLL.out] at hbv
     subst hbv
     have HBD := am (show 0 < cols.length → ∃ gb, Bl = some ⟨gb, 0, none⟩ from fun hp => by
      rcases HLO.out.2 with ⟨e_, h0⟩ | ⟨g, cap, cur, e_, _⟩
      ·have := HLL.out; omega
      injection e_ with e1_ _ _
      exact ⟨g, e1_⟩)
     have HBV := am (show ∀ i, i < cols.length → ∃ Bi di, lg.getD i undef = .slice Bi ((cols.getD i []).length + 1) di from fun i hi => by
      have h_ := Kd.R_slice (XG.out.row i (by rw [mk4_length]; exact hi))
      rw [mk4_at hi, List.length_append, List.length_singleton] at h_
      exact h_)
     go_loopw [18] (fun v w' => Rel5_cols V28 cols.length v w') (fun v _ => cols.length - (intOf v).toNat)
     case atStart => exact ⟨0, rfl, Nat.zero_le _, ⟨Below.refl _ _⟩⟩
     case round =>
      obtain ⟨i, rfl, hi, HB5⟩ := hrel
      have HI := am hi
      clear hi
      by_cases hlt : i < cols.length
      ·obtain ⟨gb, rfl⟩ := HBD.out (by omega)
       obtain ⟨Bi, di, hbi⟩ := HBV.out i hlt
       obtain ⟨r, hrr⟩ : ∃ r, r = cols.getD i [] := ⟨_, rfl⟩
       have HRW := am hrr
       rw [← hrr] at hbi
       have HBI := am hbi
       have HRL := am (show r.length ≤ 4398046511104 from by rw [hrr]; exact HROW.out i hlt)
       clear hbi hrr
       have eI : wrap64 ((i : Int) + 1) = (i : Int) + 1 := IntWalk.wrap64_in _ (by have := HKN.out; omega)
       have eM : wrap64 (-100 - (i : Int)) = -100 - (i : Int) := IntWalk.wrap64_in _ (by have := HKN.out; omega)
       have eL1 : wrap64 ((r.length : Int) + 1 - 1) = (r.length : Int) := by rw [Int.add_sub_cancel]; exact IntWalk.wrap64_in _ (by have := HRL.out; omega)
       have eL2 : wrap64 (r.length : Int) = (r.length : Int) := IntWalk.wrap64_in _ (by have := HRL.out; omega)
       have HZ5 := am (show (Kd.int .i64).R 3 V28 bP (fun q => f q = i ∧ True) (.slice Bi (r.length + 1) di) (r ++ [-100 - (i : Int)]) from by have h_ := XG.out.row i (by rw [mk4_length]; exact hlt); rw [mk4_at hlt, HBI.out, ← HRW.out] at h_; exact h_)
       obtain ⟨gy, dy, hgy, _⟩ := Kd.R_form HZ5.out (by rw [List.length_append, List.length_singleton]; omega)
       rw [List.length_append, List.length_singleton] at hgy
       injection hgy with hgy1 _ hgy3
       subst hgy1
       subst hgy3
       have g0 : wr.cell? ⟨gb, i, none⟩ = some (.slice (some ⟨gy, 0, none⟩) (r.length + 1) di) := (pw_cell_below HB5.out (outer_cell (by have h_ := HLO.out; rw [HLL.out] at h_; rw [HLL.out]; exact h_) (by rw [HLL.out]; exact hlt))).trans (congrArg some HBI.out)
       have y0 : wr.cell? ⟨gy, r.length, none⟩ = some (.int .i64 (-100 - (i : Int))) := (pw_cell_below HB5.out (int_at HZ5.out r.length (by omega)).1).trans (by rw [getD_snoc_eq])
       go_wp2
       go_quiet (fail)
       generalize hWD : wr.drewN nq = W1
       have HB6 := am (show Below V28.heap.size V28 W1 from by rw [← hWD]; exact pw_below_drewN HB5.out nq)
       clear hWD
       go_wp2
       go_roundw
       case rel => first
        | exact ⟨i + 1, by first | rfl | (rw [eI]; rfl), hlt, HB6⟩
        | (refine ⟨_, ?_, rfl⟩; exact ⟨i + 1, rfl, hlt, HB6⟩)
        | (refine ⟨_, _, ?_, rfl, rfl⟩; exact ⟨i + 1, rfl, hlt, HB6⟩)
        | (refine ⟨_, _, _, ?_, rfl, rfl, rfl⟩; exact ⟨i + 1, rfl, hlt, HB6⟩)
       case measure => first | exact mu2_ hlt (Int.lt_succ _) | exact mu2_ hlt (by rw [eI]; exact Int.lt_succ _)
      have hi := HI.out
      clear HI
      obtain rfl : i = cols.length := by omega
      clear hi hlt
      have eD : decide ((cols.length : Int) < (cols.length : Int)) = false := decide_eq_false (by omega)
      have hb := HB5.out
      replace HC := am (HC.out.step hb)
      replace XC := bR XC hb
      replace XF := am (Fam.below XF.out hb)
      replace XO := am (own_below XO.out hb)
      clear hb HB5 XE XG HLO XR HBD HBV HLL
      go_wp2
      clear eD
      go_loopw [19] (fun v w' => RelB V26 bP bK Ap cp code Al cl cols us f v w') (fun v _ => cols.length - (intOf v).toNat)
      case atStart => exact ⟨0, rfl, Nat.zero_le _, ⟨by rw [mk1_zero]; exact XF.out⟩, XO, XC, HC⟩
      case round =>
       clear XF XO XC HC
       obtain ⟨i, rfl, hi, XF, XO, XC, HC⟩ := hrel
       have HI := am hi
       clear hi
       by_cases hlt : i < cols.length
       ·obtain ⟨gl, rfl⟩ := HAD.out (by omega)
        obtain ⟨Ai, ci, hui⟩ := HUV.out i hlt
        obtain ⟨r, hrr⟩ : ∃ r, r = cols.getD i [] := ⟨_, rfl⟩
        have HRW := am hrr
        rw [← hrr] at hui
        have HUI := am hui
        have HRL := am (show r.length ≤ 4398046511104 from by rw [hrr]; exact HROW.out i hlt)
        clear hui hrr
        have eI : wrap64 ((i : Int) + 1) = (i : Int) + 1 := IntWalk.wrap64_in _ (by have := HKN.out; omega)
        have c_g9 := cf2 (bch BK_g9 HC NS_g9)
        have l0 : wr.cell? ⟨gl, i, none⟩ = some (.slice Ai r.length ci) := (outer_cell XO.out (by rw [HUL.out]; exact hlt)).trans (congrArg some HUI.out)
        go_wp2
        (try clear c_g9)
        clear l0
        go_loopw [20] (fun v w' => RelB2 V26 bP bK Ap cp code (some ⟨gl, 0, none⟩) cl cols us f i v w') (fun v _ => r.length - (intOf v).toNat)
        case atStart => exact ⟨0, rfl, Nat.zero_le _, ⟨by rw [mk2_zero _ hlt]; exact XF.out⟩, XO, XC, HC⟩
        case round =>
         clear XF XO XC HC
         obtain ⟨k, rfl, hk, XF, XO, XC, HC⟩ := hrel
         rw [← HRW.out] at hk
         have HK := am hk
         clear hk
         have c_g9 := cf2 (bch BK_g9 HC NS_g9)
         have l0 : wr.cell? ⟨gl, i, none⟩ = some (.slice Ai r.length ci) := (outer_cell XO.out (by rw [HUL.out]; exact hlt)).trans (congrArg some HUI.out)
         by_cases hlk : k < r.length
         ·have eK : wrap64 ((k : Int) + 1) = (k : Int) + 1 := IntWalk.wrap64_in _ (by have := HRL.out; omega)
          have hro0 := XF.out.row i (by rw [mk2_length]; exact hlt)
          rw [mk2_at _ hlt, ← HRW.out, HUI.out] at hro0
          obtain ⟨gi, cp_, hgi, _⟩ := Kd.R_form hro0 (by rw [rowlen_ (Nat.le_of_lt hlk)]; omega)
          rw [rowlen_ (Nat.le_of_lt hlk)] at hgi
          injection hgi with hgi1 _ hgi3
          subst hgi1
          subst hgi3
          have HRO := am hro0
          have HLK := am hlk
          clear hro0
          go_wp2_with (first | ((with_reducible refine gate_store (t := 3) (p := 161) rfl ?_); refine Kd.R_store (Kd.int .i64) (w0 := wr) bP rfl rfl 3 _ _ rfl 3 (o' := k * 1) ((k : Nat) : Int) 0 (List.replicate k (m55 i) ++ r.drop k) (m55 i) (.int .i64 55) [.int .i64 55] [.int .i64 ((List.replicate k (m55 i) ++ r.drop k).getD k 0)] (fun q => f q = i ∧ True) (fun _ => False) ?zza ?zzo rfl rfl ?zzt ?zz1 HRO.out ?zz0 ?zzi ?zzl ?zzc ?zzj ?zzm (fun _ h_ => h_.elim) (Below.refl _ _) ?_; (case zza => show Value.pointer _ = Value.pointer _; rw [Nat.mul_one]); (case zzo => rw [Int.toNat_natCast]; rfl); (case zzt => kernel_rfl); (case zz1 => intro q_ hq_; simp at hq_; rcases hq_ with rfl; rfl); (case zz0 => omega); (case zzi => have := HLK.out; omega); (case zzl => rfl); (case zzc => rw [Int.toNat_natCast]; intro j u hu; rw [show k * (Kd.int .i64).sz + j = k + j from by show k * 1 + j = k + j; omega]; exact int_row_at HRO.out k HLK.out j u hu); (case zzj => exact Nat.le_refl _); (case zzm => exact rfl); intro W1 ho_ hb_ hg_; rw [Int.toNat_natCast] at ho_; have HTY_ := am (fun q hq => Kd.R_typed HRO.out q hq); have XF1 := am (show Fam (Kd.int .i64) 3 W1 bP (fun _ => True) f us (mk2 m55 cols i (k + 1)) from by have h_ := XF.out.put (i := i) (S := fun q => q = gi) (by rw [mk2_length]; exact hlt) (Chg.of_grown hg_ (fun q hq => by injection hq with hq; exact hq.symm)) (fun q _ hq => by subst hq; exact (HRO.out.1 _ rfl).1) (by rw [HUI.out]; exact ho_); rw [HRW.out, mk2_succ _ hlt (by rw [← HRW.out]; exact HLK.out)] at h_; exact h_); replace HC := am (HC.out.grown_ hg_ (fun k hk => by injection hk with hk; subst hk; exact Or.inl (HKf.out i hlt _ (by rw [HUI.out]; rfl)))); replace XO := am (own_over XO.out hg_ HTY_.out (by decide)); replace XC := am (R_over3 XC.out hg_ HTY_.out (by decide)); clear ho_ hb_ hg_ HTY_ l0; (try clear c_g9)))
          go_roundw
          case rel => first
           | exact ⟨k + 1, by first | rfl | (rw [eK]; rfl), by rw [← HRW.out]; exact HLK.out, XF1, XO, XC, HC⟩
           | (refine ⟨_, ?_, rfl⟩; exact ⟨k + 1, rfl, by rw [← HRW.out]; exact HLK.out, XF1, XO, XC, HC⟩)
           | (refine ⟨_, _, ?_, rfl, rfl⟩; exact ⟨k + 1, rfl, by rw [← HRW.out]; exact HLK.out, XF1, XO, XC, HC⟩)
           | (refine ⟨_, _, _, ?_, rfl, rfl, rfl⟩; exact ⟨k + 1, rfl, by rw [← HRW.out]; exact HLK.out, XF1, XO, XC, HC⟩)
          case measure => first | exact mu2_ hlk (Int.lt_succ _) | exact mu2_ hlk (by rw [eK]; exact Int.lt_succ _)
         have hk := HK.out
         clear HK
         obtain rfl : k = r.length := by omega
         have HFn := am (show Fam (Kd.int .i64) 3 wr bP (fun _ => True) f us (mk1 m55 cols (i + 1)) from by have h_ := XF.out; rw [HRW.out, mk2_full _ hlt] at h_; exact h_)
         clear hk hlk XF
         have XF := HFn
         clear HFn
         have eD : decide ((r.length : Int) < (r.length : Int)) = false := decide_eq_false (by omega)
         go_wp2
         clear eD l0
         (try clear c_g9)
         obtain ⟨Ad, hcp, hcpR⟩ := cut40 (some ⟨gl, 0, none⟩) cols.length cl i hlt
         obtain ⟨Be, hck, hckR⟩ := cut40 Bk cols.length dk i hlt
         obtain ⟨dn, hdn⟩ : ∃ dn, dn = cols.length - (i + 1) := ⟨_, rfl⟩
         obtain ⟨dp, hdp⟩ : ∃ dp, dp = cl - (i + 1) := ⟨_, rfl⟩
         obtain ⟨dq, hdq⟩ : ∃ dq, dq = dk - (i + 1) := ⟨_, rfl⟩
         rw [← hdn] at hcp hck
         rw [← hdp] at hcp
         rw [← hdq] at hck
         obtain ⟨ks2, hsm2⟩ := sm_f code (cols.drop (i + 1)) (by have := HCN.out; omega) (by have := HKN.out; rw [List.length_drop]; omega) (fun l hl => by have := HALL.out l (drop_mem hl); omega)
         have HSM2 := am hsm2
         have HDN := am (show (cols.drop (i + 1)).length = dn from by rw [List.length_drop]; exact hdn.symm)
         have HDP := am (show dn ≤ dp from by have := HCL.out; omega)
         have HDQ := am (show dn ≤ dq from by have := (Kd.R_reads' YL.out).2.1; omega)
         have HPR := am hcpR
         have HQR := am hckR
         clear hcpR hckR hdn hdp hdq hsm2
         refine start_ (n := 10) (S := fun w' => w'.cell? ⟨g10, 0, none⟩ = some (.slice Ak code.length ck) ∧ w'.cell? ⟨g9, 1, none⟩ = some (.slice (some ⟨gl, 0, none⟩) cols.length cl)) (ds := [9]) #[false, false, false, false, false, false, false, false, false, false] (by kernel_rfl) rfl rfl ⟨(blk_cell (blk_chg BK_g10.out HC.out NS_g10.out) 0).trans rfl, (blk_cell (blk_chg BK_g9.out HC.out NS_g9.out) 1).trans rfl⟩ (fun hHeld => ?_)
         refine with_tabW cs_a.tab cs_a.bits (fun HT_ HW_ => ?_)
         have hb := below_drew1 (Below.refl wr.heap.size wr)
         generalize wr.drew = V149 at hHeld hb ⊢
         replace HC := am (HC.out.step hb)
         replace XF := am (Fam.below XF.out hb)
         replace XO := am (own_below XO.out hb)
         replace XC := bR XC hb
         clear hb
         refine pure_ (i := 0) (N := some 162) (v := ?_) (a' := ?_) #[true, false, false, false, false, false, false, false, false, false] rfl rfl (any_of HT_.out (by kernel_rfl)) (fun _ _ _ h => h) (Or.inl ⟨by rfl, ?_⟩) ?_ ?_
         rotate_left
         ·intro w'
          go_simp
          with_reducible rfl
         rotate_left
         ·simp only [Act.put, List.setIfInBounds_toArray, List.set_cons_zero, List.set_cons_succ, i64_w]
          rfl
         refine take_ (i := 1) (N := some 163) (v := ?_) (a' := ?_) #[true, true, false, false, false, false, false, false, false, false] rfl rfl (take_ofW HT_.out HW_.out (by kernel_rfl)) (fun _ _ _ h => h) (Or.inl ⟨by rfl, ?_⟩) hHeld ?_ ?_
         rotate_left
         ·rintro w' ⟨s0, s1⟩
          go_simp
          with_reducible rfl
         rotate_left
         ·simp only [Act.put, List.setIfInBounds_toArray, List.set_cons_zero, List.set_cons_succ, i64_w]
          rfl
         refine pure_ (i := 2) (N := some 164) (v := ?_) (a' := ?_) #[true, true, true, false, false, false, false, false, false, false] rfl rfl (any_of HT_.out (by kernel_rfl)) (fun _ _ _ h => h) (Or.inl ⟨by rfl, ?_⟩) ?_ ?_
         rotate_left
         ·intro w'
          go_simp
          with_reducible rfl
         rotate_left
         ·simp only [Act.put, List.setIfInBounds_toArray, List.set_cons_zero, List.set_cons_succ, i64_w]
          rfl
         refine take_ (i := 3) (N := some 165) (v := ?_) (a' := ?_) #[true, true, true, true, false, false, false, false, false, false] rfl rfl (take_ofW HT_.out HW_.out (by kernel_rfl)) (fun _ _ _ h => h) (Or.inl ⟨by rfl, ?_⟩) hHeld ?_ ?_
         rotate_left
         ·rintro w' ⟨s0, s1⟩
          go_simp
          with_reducible rfl
         rotate_left
         ·simp only [Act.put, List.setIfInBounds_toArray, List.set_cons_zero, List.set_cons_succ, i64_w]
          rfl
         refine pure_ (i := 4) (N := some 166) (v := ?_) (a' := ?_) #[true, true, true, true, true, false, false, false, false, false] rfl rfl (any_of HT_.out (by kernel_rfl)) (fun _ _ _ h => h) (Or.inl ⟨by rfl, ?_⟩) ?_ ?_
         rotate_left
         ·intro w'
          go_simp
          with_reducible rfl
         rotate_left
         ·simp only [Act.put, List.setIfInBounds_toArray, List.set_cons_zero, List.set_cons_succ, i64_w]
          rfl
         refine pure_ (i := 5) (N := some 167) (v := ?_) (a' := ?_) #[true, true, true, true, true, true, false, false, false, false] rfl rfl (any_of HT_.out (by kernel_rfl)) (fun _ _ _ h => h) (Or.inl ⟨by rfl, ?_⟩) ?_ ?_
         rotate_left
         ·intro w'
          go_simp
          with_reducible rfl
         rotate_left
         ·simp only [Act.put, List.setIfInBounds_toArray, List.set_cons_zero, List.set_cons_succ, i64_w]
          rfl
         refine pure_ (i := 6) (N := some 168) (v := ?_) (a' := ?_) #[true, true, true, true, true, true, true, false, false, false] rfl rfl (any_of HT_.out (by kernel_rfl)) (fun _ _ _ h => h) (Or.inl ⟨by rfl, ?_⟩) ?_ ?_
         rotate_left
         ·intro w'
          go_simp
          with_reducible rfl
         rotate_left
         ·simp only [Act.put, List.setIfInBounds_toArray, List.set_cons_zero, List.set_cons_succ, i64_w]
          rfl
         refine pure_ (i := 7) (N := some 169) (v := ?_) (a' := ?_) #[true, true, true, true, true, true, true, true, false, false] rfl rfl (any_of HT_.out (by kernel_rfl)) (fun _ _ _ h => h) (Or.inl ⟨by rfl, ?_⟩) ?_ ?_
         rotate_left
         ·intro w'
          go_simp
          with_reducible rfl
         rotate_left
         ·simp only [Act.put, List.setIfInBounds_toArray, List.set_cons_zero, List.set_cons_succ, i64_w]
          rfl
         refine one_ (i := 8) (N := some 21) #[true, true, true, true, true, true, true, true, true, false] rfl rfl (one_of HT_.out (by kernel_rfl)) (by decide) (fun K hK => ?_)
         refine value_ (w1 := ?_) (v := ?_) (by rfl) rfl ?_ ?_
         rotate_left 2
         ·go_simp
          constructor
          ·rfl
          rfl
         refine hK.out _ _ ⟨(blk_cell (blk_alloc (blk_chg BK_g10.out HC.out NS_g10.out) _) 0).trans rfl, (blk_cell (blk_alloc (blk_chg BK_g9.out HC.out NS_g9.out) _) 1).trans rfl⟩ (fun hHeld => ?_)
         clear hK K
         refine norm_ (a' := ?_) ?_ ?_
         rotate_left
         ·show Act.put _ (some 21) _ = _
          simp only [Act.put, List.setIfInBounds_toArray, List.set_cons_zero, List.set_cons_succ, i64_w]
          rfl
         have hb := (Below.refl V149.heap.size V149).alloc (Nat.le_refl _) (.cells #[.slice none 0 0, .slice none 0 0] 42)
         have hbox := blk_new V149 (.cells #[.slice none 0 0, .slice none 0 0] 42)
         obtain ⟨g21, hg_⟩ : ∃ g21, g21 = V149.heap.size := ⟨_, rfl⟩
         rw [← hg_] at hbox ⊢
         generalize V149.alloc (.cells #[.slice none 0 0, .slice none 0 0] 42) = V150 at hb hbox hHeld ⊢
         have HJ := am hb
         have GJ := am (show V149.heap.size ≤ g21 from Nat.le_of_eq hg_.symm)
         have BK_g21 := am hbox
         clear hb hbox hg_
         have c0 : V150.cell? ⟨g21, 0, none⟩ = some (.slice none 0 0) := (blk_cell BK_g21.out 0).trans rfl
         have c1 : V150.cell? ⟨g21, 1, none⟩ = some (.slice none 0 0) := (blk_cell BK_g21.out 1).trans rfl
         have f0 := blk_frozen BK_g21.out 0
         have f1 := blk_frozen BK_g21.out 1
         refine last_ (i := 9) (N := none) #[true, true, true, true, true, true, true, true, true, true] rfl rfl (one_of HT_.out (by kernel_rfl)) (by decide) (fun K hK => ?_)
         refine skip_ (w1 := ?_) (by rfl) rfl ?_ ?_
         rotate_left
         ·go_simp
          rfl
         refine hK.out _ _ ?_
         clear hK K
         clear c0 c1 f0 f1 hHeld
         refine done_ (done_of HT_.out (by kernel_rfl)) ?_
         generalize hWQ : (V150.setCell ⟨g21, 0, none⟩ (.slice Ak code.length ck)).setCell ⟨g21, 1, none⟩ (.slice Ad dn dp) = V151
         have hb : Below V149.heap.size V149 V151 := by rw [← hWQ]; exact below_set (below_set HJ.out GJ.out) GJ.out
         have BQ : Aside0 (V151.heap[g21]? = some (.cells #[.slice Ak code.length ck, .slice Ad dn dp] 42 (0, 0))) := ⟨by rw [← hWQ]; exact blk_put (cs := #[.slice Ak code.length ck, .slice none 0 0]) (blk_put (cs := #[.slice none 0 0, .slice none 0 0]) BK_g21.out 0 _ rfl) 1 _ rfl⟩
         replace HC := am (HC.out.step hb)
         replace XF := am (Fam.below XF.out hb)
         replace XO := am (own_below XO.out hb)
         replace XC := bR XC hb
         clear hb hWQ HJ GJ BK_g21
         have BK_g21 := BQ
         clear BQ
         go_wp2
         refine start_ (n := 11) (S := fun w' => w'.cell? ⟨g21, 0, none⟩ = some (.slice Ak code.length ck) ∧ w'.cell? ⟨g21, 1, none⟩ = some (.slice Ad dn dp) ∧ w'.cell? ⟨g10, 0, none⟩ = some (.slice Ak code.length ck) ∧ w'.cell? ⟨g10, 1, none⟩ = some (.slice Bk cols.length dk)) (ds := []) #[false, false, false, false, false, false, false, false, false, false, false] (by kernel_rfl) rfl rfl ⟨(blk_cell BK_g21.out 0).trans rfl, (blk_cell BK_g21.out 1).trans rfl, (blk_cell (blk_chg BK_g10.out HC.out NS_g10.out) 0).trans rfl, (blk_cell (blk_chg BK_g10.out HC.out NS_g10.out) 1).trans rfl⟩ (fun hHeld => ?_)
         refine with_tabW cs_b.tab cs_b.bits (fun HT_ HW_ => ?_)
         have hb := below_drew1 (Below.refl V151.heap.size V151)
         generalize V151.drew = V152 at hHeld hb ⊢
         replace HC := am (HC.out.step hb)
         replace XF := am (Fam.below XF.out hb)
         replace XO := am (own_below XO.out hb)
         replace XC := bR XC hb
         replace BK_g21 := bb BK_g21 hb
         clear hb
         refine take_ (i := 0) (N := some 170) (v := ?_) (a' := ?_) #[true, false, false, false, false, false, false, false, false, false, false] rfl rfl (take_ofW HT_.out HW_.out (by kernel_rfl)) (fun _ _ _ h => h) (Or.inl ⟨by rfl, ?_⟩) hHeld ?_ ?_
         rotate_left
         ·rintro w' ⟨s0, s1, s2, s3⟩
          go_simp
          with_reducible rfl
         rotate_left
         ·simp only [Act.put, List.setIfInBounds_toArray, List.set_cons_zero, List.set_cons_succ, i64_w]
          rfl
         refine pure_ (i := 1) (N := some 171) (v := ?_) (a' := ?_) #[true, true, false, false, false, false, false, false, false, false, false] rfl rfl (any_of HT_.out (by kernel_rfl)) (fun _ _ _ h => h) (Or.inl ⟨by rfl, ?_⟩) ?_ ?_
         rotate_left
         ·intro w'
          go_simp
          with_reducible rfl
         rotate_left
         ·simp only [Act.put, List.setIfInBounds_toArray, List.set_cons_zero, List.set_cons_succ, i64_w]
          rfl
         refine take_ (i := 2) (N := some 172) (v := ?_) (a' := ?_) #[true, true, true, false, false, false, false, false, false, false, false] rfl rfl (take_ofW HT_.out HW_.out (by kernel_rfl)) (fun _ _ _ h => h) (Or.inl ⟨by rfl, ?_⟩) hHeld ?_ ?_
         rotate_left
         ·rintro w' ⟨s0, s1, s2, s3⟩
          go_simp
          with_reducible rfl
         rotate_left
         ·simp only [Act.put, List.setIfInBounds_toArray, List.set_cons_zero, List.set_cons_succ, i64_w]
          rfl
         refine pure_ (i := 3) (N := some 173) (v := ?_) (a' := ?_) #[true, true, true, true, false, false, false, false, false, false, false] rfl rfl (any_of HT_.out (by kernel_rfl)) (fun _ _ _ h => h) (Or.inl ⟨by rfl, ?_⟩) ?_ ?_
         rotate_left
         ·intro w'
          go_simp
          with_reducible rfl
         rotate_left
         ·simp only [Act.put, List.setIfInBounds_toArray, List.set_cons_zero, List.set_cons_succ, i64_w]
          rfl
         refine take_ (i := 4) (N := some 174) (v := ?_) (a' := ?_) #[true, true, true, true, true, false, false, false, false, false, false] rfl rfl (take_ofW HT_.out HW_.out (by kernel_rfl)) (fun _ _ _ h => h) (Or.inl ⟨by rfl, ?_⟩) hHeld ?_ ?_
         rotate_left
         ·rintro w' ⟨s0, s1, s2, s3⟩
          go_simp
          with_reducible rfl
         rotate_left
         ·simp only [Act.put, List.setIfInBounds_toArray, List.set_cons_zero, List.set_cons_succ, i64_w]
          rfl
         refine pure_ (i := 5) (N := some 175) (v := ?_) (a' := ?_) #[true, true, true, true, true, true, false, false, false, false, false] rfl rfl (any_of HT_.out (by kernel_rfl)) (fun _ _ _ h => h) (Or.inl ⟨by rfl, ?_⟩) ?_ ?_
         rotate_left
         ·intro w'
          go_simp
          with_reducible rfl
         rotate_left
         ·simp only [Act.put, List.setIfInBounds_toArray, List.set_cons_zero, List.set_cons_succ, i64_w]
          rfl
         refine pure_ (i := 6) (N := some 176) (v := ?_) (a' := ?_) #[true, true, true, true, true, true, true, false, false, false, false] rfl rfl (any_of HT_.out (by kernel_rfl)) (fun _ _ _ h => h) (Or.inl ⟨by rfl, ?_⟩) ?_ ?_
         rotate_left
         ·intro w'
          go_simp
          with_reducible rfl
         rotate_left
         ·simp only [Act.put, List.setIfInBounds_toArray, List.set_cons_zero, List.set_cons_succ, i64_w]
          rfl
         refine pure_ (i := 7) (N := some 177) (v := ?_) (a' := ?_) #[true, true, true, true, true, true, true, true, false, false, false] rfl rfl (any_of HT_.out (by kernel_rfl)) (fun _ _ _ h => h) (Or.inl ⟨by rfl, ?_⟩) ?_ ?_
         rotate_left
         ·intro w'
          go_simp
          with_reducible rfl
         rotate_left
         ·simp only [Act.put, List.setIfInBounds_toArray, List.set_cons_zero, List.set_cons_succ, i64_w]
          rfl
         refine pure_ (i := 8) (N := some 178) (v := ?_) (a' := ?_) #[true, true, true, true, true, true, true, true, true, false, false] rfl rfl (any_of HT_.out (by kernel_rfl)) (fun _ _ _ h => h) (Or.inl ⟨by rfl, ?_⟩) ?_ ?_
         rotate_left
         ·intro w'
          go_simp
          with_reducible rfl
         rotate_left
         ·simp only [Act.put, List.setIfInBounds_toArray, List.set_cons_zero, List.set_cons_succ, i64_w]
          rfl
         refine one_ (i := 9) (N := some 179) #[true, true, true, true, true, true, true, true, true, true, false] rfl rfl (one_of HT_.out (by kernel_rfl)) (by decide) (fun K hK => ?_)
         refine goes_ Tryd.func11 (by kernel_rfl) rfl #[.agg #[.slice Ak code.length ck, .slice Ad dn dp], .agg #[.slice Ak code.length ck, .slice Be dn dq]] (by rfl) rfl rfl (by first | rfl | (simp [Act.eval]; done) | (go_simp; done) | simp [Act.eval, *]) ?_
         refine (same_is ks2 code.length dn code (cols.drop (i + 1)) Ak ck Ad dp Ak ck Be dq _ rfl HDN.out (rd_at YK.out HC.out) (Kd.R_reads' YK.out).2.1 (by have h_ := HPR.out _ (mk1 m55 cols (i + 1)) (mk1_length _ _ _) HCL.out (by have h_ := fam_rd XO.out XF.out; rw [mk1_length] at h_; exact h_); rw [mk1_drop] at h_; exact h_) HDP.out (rd_at YK.out HC.out) (Kd.R_reads' YK.out).2.1 (HQR.out _ cols rfl (Kd.R_reads' YL.out).2.1 (rd_at YL.out HC.out)) HDQ.out HSM2.out).mono ?_
         rintro e V153 ⟨rfl, hb⟩
         replace HC := am (HC.out.step hb)
         replace XF := am (Fam.below XF.out hb)
         replace XO := am (own_below XO.out hb)
         replace XC := bR XC hb
         replace BK_g21 := bb BK_g21 hb
         clear hb
         refine ⟨_, rfl, ?_⟩
         refine hK.out _ _ ⟨(blk_cell BK_g21.out 0).trans rfl, (blk_cell BK_g21.out 1).trans rfl, (blk_cell (blk_chg BK_g10.out HC.out NS_g10.out) 0).trans rfl, (blk_cell (blk_chg BK_g10.out HC.out NS_g10.out) 1).trans rfl⟩ (fun hHeld => ?_)
         clear hK K
         refine norm_ (a' := ?_) ?_ ?_
         rotate_left
         ·show Act.put _ (some 179) _ = _
          simp only [Act.put, List.setIfInBounds_toArray, List.set_cons_zero, List.set_cons_succ, i64_w]
          rfl
         refine pure_ (i := 10) (N := some 180) (v := ?_) (a' := ?_) #[true, true, true, true, true, true, true, true, true, true, true] rfl rfl (any_of HT_.out (by kernel_rfl)) (fun _ _ _ h => h) (Or.inl ⟨by rfl, ?_⟩) ?_ ?_
         rotate_left
         ·intro w'
          go_simp
          with_reducible rfl
         rotate_left
         ·simp only [Act.put, List.setIfInBounds_toArray, List.set_cons_zero, List.set_cons_succ, i64_w]
          rfl
         refine done_ (done_of HT_.out (by kernel_rfl)) ?_
         clear hHeld hcp hck
         go_wp2
         go_roundw
         case rel => first
          | exact ⟨i + 1, by first | rfl | (rw [eI]; rfl), hlt, XF, XO, XC, HC⟩
          | (refine ⟨_, ?_, rfl⟩; exact ⟨i + 1, rfl, hlt, XF, XO, XC, HC⟩)
          | (refine ⟨_, _, ?_, rfl, rfl⟩; exact ⟨i + 1, rfl, hlt, XF, XO, XC, HC⟩)
          | (refine ⟨_, _, _, ?_, rfl, rfl, rfl⟩; exact ⟨i + 1, rfl, hlt, XF, XO, XC, HC⟩)
         case measure => first | exact mu2_ hlt (Int.lt_succ _) | exact mu2_ hlt (by rw [eI]; exact Int.lt_succ _)
       have hi := HI.out
       clear HI
       obtain rfl : i = cols.length := by omega
       clear hi hlt
       have eD : decide ((cols.length : Int) < (cols.length : Int)) = false := decide_eq_false (by omega)
       have c_g9 := cf2 (bch BK_g9 HC NS_g9)
       go_wp2
       clear eD
       (try clear c_g9)
       clear XF XO
       go_loopw [22] (fun v w' => RelC V26 bP bK Ap cp code v w') (fun v _ => code.length - (intOf v).toNat)
       case atStart => exact ⟨0, code, rfl, Nat.zero_le _, rfl, XC, HC⟩
       case round =>
        clear XC HC
        obtain ⟨i, xs, rfl, hi, hxl, XC, HC⟩ := hrel
        have HI := am hi
        have HXL := am hxl
        clear hi hxl
        by_cases hlt : i < code.length
        ·have eI : wrap64 ((i : Int) + 1) = (i : Int) + 1 := IntWalk.wrap64_in _ (by have := HCN.out; omega)
         obtain ⟨ga, cp_, hga, _⟩ := Kd.R_form XC.out (by have := HXL.out; omega)
         injection hga with hga1 _ hga3
         subst hga1
         subst hga3
         have HLT := am hlt
         have c_g9 := cf2 (bch BK_g9 HC NS_g9)
         go_wp2_with (first | ((with_reducible refine gate_store (t := 47) (p := 192) rfl ?_); refine Kd.R_store k47 (w0 := wr) bP rfl rfl 47 _ _ rfl 47 (o' := i * 5) ((i : Nat) : Int) 0 xs (⟨77, 0, 0, 0, 0⟩ : S47) (.agg #[.int .i64 77, .int .i64 0, .int .i64 0, .int .i64 0, .int .i64 0]) [.int .i64 77, .int .i64 0, .int .i64 0, .int .i64 0, .int .i64 0] [.int .i64 (rd_T47 xs (i : Int)).f0, .int .i64 (rd_T47 xs (i : Int)).f1, .int .i64 (rd_T47 xs (i : Int)).f2, .int .i64 (rd_T47 xs (i : Int)).f3, .int .i64 (rd_T47 xs (i : Int)).f4] (fun _ => True) (fun _ => False) ?zza ?zzo rfl rfl ?zzt ?zz1 XC.out ?zz0 ?zzi ?zzl ?zzc ?zzj ?zzm (fun _ h_ => h_.elim) (Below.refl _ _) ?_; (case zza => rfl); (case zzo => rw [Int.toNat_natCast]; rfl); (case zzt => kernel_rfl); (case zz1 => intro q_ hq_; simp at hq_; rcases hq_ with rfl | rfl <;> rfl); (case zz0 => omega); (case zzi => have := HLT.out; omega); (case zzl => rfl); (case zzc => rw [Int.toNat_natCast]; exact row47 XC.out i HLT.out); (case zzj => exact Nat.le_refl _); (case zzm => exact k47_mkM _ _ _ _); intro W1 ho_ hb_ hg_; rw [Int.toNat_natCast] at ho_; have XC1 := am ho_; replace HC := am (HC.out.grown_ hg_ (fun k hk => by injection hk with hk; subst hk; exact Or.inl (HKc.out _ rfl))); (try clear c_g9); clear ho_ hb_ hg_))
         go_roundw
         case rel => first
          | exact ⟨i + 1, xs.set i (⟨77, 0, 0, 0, 0⟩ : S47), by first | rfl | (rw [eI]; rfl), hlt, by rw [List.length_set]; exact HXL.out, XC1, HC⟩
          | (refine ⟨_, ?_, rfl⟩; exact ⟨i + 1, xs.set i (⟨77, 0, 0, 0, 0⟩ : S47), rfl, hlt, by rw [List.length_set]; exact HXL.out, XC1, HC⟩)
          | (refine ⟨_, _, ?_, rfl, rfl⟩; exact ⟨i + 1, xs.set i (⟨77, 0, 0, 0, 0⟩ : S47), rfl, hlt, by rw [List.length_set]; exact HXL.out, XC1, HC⟩)
          | (refine ⟨_, _, _, ?_, rfl, rfl, rfl⟩; exact ⟨i + 1, xs.set i (⟨77, 0, 0, 0, 0⟩ : S47), rfl, hlt, by rw [List.length_set]; exact HXL.out, XC1, HC⟩)
         case measure => first | exact mu2_ hlt (Int.lt_succ _) | exact mu2_ hlt (by rw [eI]; exact Int.lt_succ _)
        have hi := HI.out
        clear HI
        obtain rfl : i = code.length := by omega
        clear hi hlt
        have eD : decide ((code.length : Int) < (code.length : Int)) = false := decide_eq_false (by omega)
        have c_g9 := cf2 (bch BK_g9 HC NS_g9)
        go_wp2
        clear eD
        (try clear c_g9)
        clear XC HXL
        go_loopw [23, 24, 25] (fun vc vd v w' => RelD V26 bP bK code cols vc vd v w') (fun _ _ v _ => 3 - (intOf v).toNat)
        case atStart => exact ⟨0, fun _ => 0, fun _ => 0, [], [], rfl, by omega, ⟨World.ownsRow_nil _ _ _ _⟩, ⟨Fam.nil _ _ _ _ _ _⟩, ⟨World.ownsRow_nil _ _ _ _⟩, ⟨Fam.nil _ _ _ _ _ _⟩, HC⟩
        case round =>
         clear HC
         obtain ⟨i, f, g, us, vs, rfl, hi, CO, CF, DO, DF, HC⟩ := hrel
         have HI := am hi
         clear hi
         by_cases hlt : i < 3
         ·have eI : wrap64 ((i : Int) + 1) = (i : Int) + 1 := IntWalk.wrap64_in _ (by omega)
          have HLT := am hlt
          have HUS := am (show us.length = i * cols.length from by have h_ := CF.out.len; rw [repC_length] at h_; exact h_)
          have HVS := am (show vs.length = i from by have h_ := DF.out.len; rw [List.length_replicate] at h_; exact h_)
          obtain ⟨g4_, hg4⟩ : ∃ g4_ : Nat → Nat, g4_ = fun q => if q < wr.heap.size then g q else i := ⟨_, rfl⟩
          have HG4 := am (show ∀ q, wr.heap.size ≤ q → g4_ q = i from fun q hq => by rw [hg4]; exact if_neg (by omega))
          have DFx := am (DF.out.ext (f' := g4_) (fun q hq => by rw [hg4]; exact if_pos hq))
          have CFl := am CF.out.low
          have HNB := am HC.out.size
          clear hg4 DF CF
          have DF := DFx
          have CF := CFl
          clear DFx CFl
          have c_g4 := cf1 (bch BK_g4 HC NS_g4)
          have c_g5 := cf7 (bch BK_g5 HC NS_g5)
          go_wp2_with (first | (go_at_call 8; refine (comp_is Q0 c0 its q1 q2 Q3 c3 wh q4 q5 Q6 c6 ret T0 tc types A c t _ (HGK.out.below (ss_below HB8.out HC.out HZ.out)) (HQ.out.below (ss_below HB8.out HC.out HZ.out)) (Kd.C_below HTY.out (ss_below HB8.out HC.out HZ.out)) HTC.out HTS.out (Kd.C_below HP.out (ss_below HB8.out HC.out HZ.out)) HS.out code cols HCV.out).mono ?_; rintro e V209 ⟨Am, cm, An, cn, rfl, hRc, hSl, hb⟩; have MR := am hRc; have MCL := am (Kd.S_reads' hSl).2.1; obtain ⟨f2, us2, ho_, hf_⟩ := S_fam hSl; have MO := am ho_; have MF := am hf_; (try clear c_g4); (try clear c_g5); replace HC := am (HC.out.step hb); replace CO := am (own_below CO.out hb); replace CF := am (Fam.below CF.out hb); replace DO := am (own_below DO.out hb); replace DF := am (Fam.below DF.out hb); clear hb hRc hSl ho_ hf_) | ((with_reducible refine gate_dst (N := 26) rfl ?_); refine box_event ?hg (N := 26) ?hd (cs := #[.slice none 0 0, .slice none 0 0]) (t := 42) ?hr ?_; (case hd => rfl); (case hg => rfl); (case hr => first | (go_simp; done) | (go_simp; rfl)); intro g26 hg_ V210 hbox hb; have HJ := am hb; have GJ := am (show V209.heap.size ≤ g26 from Nat.le_of_eq hg_.symm); have BK_g26 := am hbox; have c_g26 := cf2 BK_g26; clear hb hbox hg_) | ((with_reducible refine gate_store (t := 42) (p := 26) rfl ?_); refine store_event (t := 42) (p := 26) (v := ?vo_V210_9) (w1 := ?w1_V210_10) ?hg ?ho ?hn ?hr ?_; (case ho => rfl); (case hg => rfl); (case hn => rfl); (case hr => first | (go_simp; done) | (go_simp; rfl)); intro V211 hw; have hb : Below V209.heap.size V209 V211 := (by rw [hw]; exact below_set (below_set (HJ.out) GJ.out) GJ.out); replace BK_g26 := bp2 BK_g26 hw; clear hw c_g26; have GN_g26 := am (Nat.le_trans HC.out.size GJ.out); replace HC := am (HC.out.step hb); replace CO := am (own_below CO.out hb); replace CF := am (Fam.below CF.out hb); replace DO := am (own_below DO.out hb); replace DF := am (Fam.below DF.out hb); replace MR := bR MR hb; replace MO := am (own_below MO.out hb); replace MF := am (Fam.below MF.out hb); have c_g10 := cf2 (bch BK_g10 HC NS_g10); clear hb HJ GJ; have c_g26_0 : V211.cell? ⟨g26, 0, none⟩ = some (.slice Am code.length cm) := (blk_cell BK_g26.out 0).trans rfl; have c_g26_1 : V211.cell? ⟨g26, 1, none⟩ = some (.slice An cols.length cn) := (blk_cell BK_g26.out 1).trans rfl) | (go_at_call 11; refine (sluicelaw7_sameProgram.calls ks Am cm code An cn cols Ak ck code Bk dk cols true _ (Kd.R_reads' MR.out).2.2 (Kd.R_reads' MR.out).2.1 (fam_rd MO.out MF.out) MCL.out (rd_at YK.out HC.out) (Kd.R_reads' YK.out).2.1 (rd_at YL.out HC.out) (Kd.R_reads' YL.out).2.1 HSM.out).mono ?_; rintro e V212 ⟨rfl, hb⟩; (try clear c_g10); (try clear c_g26_0); (try clear c_g26_1); replace HC := am (HC.out.step hb); replace CO := am (own_below CO.out hb); replace CF := am (Fam.below CF.out hb); replace DO := am (own_below DO.out hb); replace DF := am (Fam.below DF.out hb); replace MR := bR MR hb; replace MO := am (own_below MO.out hb); replace MF := am (Fam.below MF.out hb); replace BK_g26 := bb BK_g26 hb; clear hb; have c_g26_0 : V212.cell? ⟨g26, 0, none⟩ = some (.slice Am code.length cm) := (blk_cell BK_g26.out 0).trans rfl; have c_g26_1 : V212.cell? ⟨g26, 1, none⟩ = some (.slice An cols.length cn) := (blk_cell BK_g26.out 1).trans rfl) | ((with_reducible refine gate_builtin (b := .append) (xs := #[.tmp 205, .tmp 207]) rfl ?_); at_builtin; refine append_all V26.heap.size rfl (.tmp 205) (.tmp 207) 40 48 (.slice none 0 0) 24 rfl Tryd.underlying40 info48 rfl (by decide) _ (.slice An cols.length cn) us us2 wr.heap.size rfl rfl (fam_one MF.out) CO.out MO.out HC.out.size ?aL ?_; (case aL => have h1 := HUS.out; have h2 := MF.out.len; have h3 := HKN.out; have h4 : i * cols.length ≤ 2 * cols.length := Nat.mul_le_mul_right _ (by have := HLT.out; omega); omega); intro v1 V213 ho_ hg_ hat_; have HTY_ := am (fun q hq => own_typed CO.out q hq); have HBS_ := am (fun q hq => own_base CO.out q hq); (try clear c_g26_0); (try clear c_g26_1); replace CF := am (Fam.over CF.out hg_ HTY_.out (by decide)); replace MF := am (Fam.over MF.out hg_ HTY_.out (by decide)); replace MR := am (R_over3 MR.out hg_ HTY_.out (by decide)); replace DF := am (Fam.over DF.out hg_ HTY_.out (by decide)); replace DO := am (own_over DO.out hg_ HTY_.out (by decide)); replace BK_g26 := am (blk_over BK_g26.out hg_ HTY_.out (by decide)); replace HC := am (HC.out.grown_ hg_ (fun k hk => Or.inr (HBS_.out k hk))); have CFn := am (show Fam (Kd.int .i64) 3 V213 V26.heap.size (fun _ => True) (fun k => if k < wr.heap.size then f k else (repC cols i).length + f2 k) (us ++ us2) (repC cols (i + 1)) from (by rw [repC_succ]; exact Fam.cat (m := wr.heap.size) CF.out ((Fam.mono (Fam.bound MF.out) (fun k hk => hk.2.1)).lower HNB.out))); clear CF CO MO MF; have CF := CFn; have CO := am ho_; clear CFn ho_ hg_ hat_ HTY_ HBS_; have c_g26_0 : V213.cell? ⟨g26, 0, none⟩ = some (.slice Am code.length cm) := (blk_cell BK_g26.out 0).trans rfl; have c_g26_1 : V213.cell? ⟨g26, 1, none⟩ = some (.slice An cols.length cn) := (blk_cell BK_g26.out 1).trans rfl) | ((with_reducible refine gate_builtin (b := .append) (xs := #[.tmp 209, .tmp 212]) rfl ?_); at_builtin; refine print_append_cells (w0 := V213) V26.heap.size rfl (.tmp 209) (.tmp 212) 55 39 (.slice none 0 0) 1 24 rfl Tryd.underlying55 info39 rfl (by decide) (by decide) _ vs.length vs [(.slice Am code.length cm : Value)] rfl ?aX rfl ?a1 DO.out (Below.refl _ _) HC.out.size ?aL ?_; (case aX => first | rfl | (show Value.slice _ _ _ = Value.slice _ _ _; simp)); (case a1 => intro q_ hq_; rw [List.mem_singleton] at hq_; subst hq_; rfl); (case aL => have h1 := HVS.out; have h2 := HLT.out; omega); intro v2 V214 ho_ hb_ hg_ hat_; have HTY_ := am (fun q hq => own_typed DO.out q hq); have HBS_ := am (fun q hq => own_base DO.out q hq); (try clear c_g26_0); (try clear c_g26_1); replace CF := am (Fam.over CF.out hg_ HTY_.out (by decide)); replace CO := am (own_over CO.out hg_ HTY_.out (by decide)); replace MR := am (R_over3 MR.out hg_ HTY_.out (by decide)); replace DF := am (Fam.over DF.out hg_ HTY_.out (by decide)); replace HC := am (HC.out.grown_ hg_ (fun k hk => Or.inr (HBS_.out k hk))); have DFn := am (show Fam k47 47 V214 V26.heap.size (fun _ => True) g4_ (vs ++ [(.slice Am code.length cm : Value)]) (List.replicate (i + 1) code) from (by rw [List.replicate_succ']; exact DF.out.snoc (Kd.R_lower (Kd.R_mono (Kd.R_bound MR.out) (fun k hk => ⟨by rw [List.length_replicate]; exact HG4.out k hk.2.1, trivial⟩)) HNB.out))); clear DF DO MR; have DF := DFn; have DO := am (show V214.ownsRow V26.heap.size 39 1 v2 (vs ++ [(.slice Am code.length cm : Value)]).length (vs ++ [(.slice Am code.length cm : Value)]) from (by rw [List.length_append, List.length_singleton]; exact ho_)); clear DFn ho_ hb_ hg_ hat_ HTY_ HBS_ BK_g26))
          go_roundw
          case rel => first
           | exact ⟨i + 1, _, g4_, us ++ us2, vs ++ [(.slice Am code.length cm : Value)], by first | rfl | (rw [eI]; rfl), hlt, CO, CF, DO, DF, HC⟩
           | (refine ⟨_, ?_, rfl⟩; exact ⟨i + 1, _, g4_, us ++ us2, vs ++ [(.slice Am code.length cm : Value)], rfl, hlt, CO, CF, DO, DF, HC⟩)
           | (refine ⟨_, _, ?_, rfl, rfl⟩; exact ⟨i + 1, _, g4_, us ++ us2, vs ++ [(.slice Am code.length cm : Value)], rfl, hlt, CO, CF, DO, DF, HC⟩)
           | (refine ⟨_, _, _, ?_, rfl, rfl, rfl⟩; exact ⟨i + 1, _, g4_, us ++ us2, vs ++ [(.slice Am code.length cm : Value)], rfl, hlt, CO, CF, DO, DF, HC⟩)
          case measure => first | exact mu2_ hlt (Int.lt_succ _) | exact mu2_ hlt (by rw [eI]; exact Int.lt_succ _)
         have hi := HI.out
         clear HI
         obtain rfl : i = 3 := by omega
         clear hi hlt
         have hbb : (bv == bv) = true := beq_self_eq_true bv
         have hnn : (nv == nv) = true := beq_self_eq_true nv
         have hee : (ev == ev) = true := beq_self_eq_true ev
         have hed : decide (ev = ev) = true := decide_eq_true rfl
         have tok5 : True := trivial
         go_wp2_with (first | (go_at_call 12; refine (cols_apart _ V26.heap.size f _ us (repC cols 3) CO.out CF.out HC.out.size (by rw [repC_length]; have := HKN.out; omega) (fun x hx => by have := HALL.out x (repC_mem hx); omega)).mono ?_; rintro e V209 ⟨rfl, hc_⟩; replace DO := am (own_tychg DO.out hc_ (by decide)); replace DF := am (Fam.tychg DF.out hc_ (by decide)); replace HC := am (Chg.ty HC.out hc_ (Nat.le_refl _)); clear CO CF hc_) | (go_at_call 13; refine (codes_apart _ V26.heap.size g _ vs (List.replicate 3 code) DO.out DF.out HC.out.size (by rw [List.length_replicate]; omega) (fun x hx => by rw [List.eq_of_mem_replicate hx]; have := HCN.out; omega)).mono ?_; rintro e V210 ⟨rfl, hc_⟩; replace HC := am (Chg.ty HC.out hc_ (Nat.le_refl _)); clear DO DF hc_; have c_g11 := cf2 (bch BK_g11 HC NS_g11); have c_g7 := cf3 (bch BK_g7 HC NS_g7)) | (go_at_call 10; refine (run_is Ao co code Bo eo cols AL cL L each at_ _ (HG.out.below (ss_below HB8.out HC.out HZ.out)) (rd_at ZO.out HC.out) (rd_at ZL.out HC.out) (Kd.C_below HL.out (ss_below HB8.out HC.out HZ.out)) HBL.out HAT.out HAT2.out (by have := HCN.out; omega) bv nv ev HRV.out).mono ?_; rintro e V211 ⟨rfl, hb⟩; (try clear c_g11); (try clear c_g7); replace HC := am (HC.out.step hb); clear hb) | ((with_reducible refine gate_dst (N := 27) rfl ?_); refine box_event ?hg (N := 27) ?hd (cs := #[.bool false, .int .i64 0]) (t := 50) ?hr ?_; (case hd => rfl); (case hg => rfl); (case hr => first | (go_simp; done) | (go_simp; rfl)); intro g27 hg_ V212 hbox hb; have HJ := am hb; have GJ := am (show V211.heap.size ≤ g27 from Nat.le_of_eq hg_.symm); have BK_g27 := am hbox; have c_g27 := cf2 BK_g27; clear hb hbox hg_) | ((with_reducible refine gate_store (t := 50) (p := 27) rfl ?_); refine store_event (t := 50) (p := 27) (v := ?vo_V212_11) (w1 := ?w1_V212_12) ?hg ?ho ?hn ?hr ?_; (case ho => rfl); (case hg => rfl); (case hn => rfl); (case hr => first | (go_simp; done) | (go_simp; rfl)); intro V213 hw; have hb : Below V211.heap.size V211 V213 := (by rw [hw]; exact below_set (below_set (HJ.out) GJ.out) GJ.out); replace BK_g27 := bp2 BK_g27 hw; clear hw c_g27; have GN_g27 := am (Nat.le_trans HC.out.size GJ.out); replace HC := am (HC.out.step hb); clear hb HJ GJ; clear GN_g27))
         refine start_ (n := 22) (S := fun w' => w'.cell? ⟨g16, 0, none⟩ = some (.bool bv) ∧ w'.cell? ⟨g16, 1, none⟩ = some (.int .i64 nv) ∧ w'.cell? ⟨g11, 0, none⟩ = some (.slice Ao code.length co) ∧ w'.cell? ⟨g11, 1, none⟩ = some (.slice Bo cols.length eo) ∧ w'.cell? ⟨g10, 0, none⟩ = some (.slice Ak code.length ck) ∧ w'.cell? ⟨g10, 1, none⟩ = some (.slice Bk cols.length dk) ∧ w'.cell? ⟨g4, 0, none⟩ = some (.slice T0 types.length tc) ∧ w'.cell? ⟨g5, 0, none⟩ = some (.slice Q0 its.length c0) ∧ w'.cell? ⟨g5, 1, none⟩ = some (.int .i64 q1) ∧ w'.cell? ⟨g5, 2, none⟩ = some (.int .i64 q2) ∧ w'.cell? ⟨g5, 3, none⟩ = some (.slice Q3 wh.length c3) ∧ w'.cell? ⟨g5, 4, none⟩ = some (.int .i64 q4) ∧ w'.cell? ⟨g5, 5, none⟩ = some (.string q5) ∧ w'.cell? ⟨g5, 6, none⟩ = some (.slice Q6 ret.length c6) ∧ w'.cell? ⟨g27, 0, none⟩ = some (.bool bv) ∧ w'.cell? ⟨g27, 1, none⟩ = some (.int .i64 nv)) (ds := []) #[false, false, false, false, false, false, false, false, false, false, false, false, false, false, false, false, false, false, false, false, false, false] (by kernel_rfl) rfl rfl ⟨(blk_cell (blk_chg BK_g16.out HC.out NS_g16.out) 0).trans rfl, (blk_cell (blk_chg BK_g16.out HC.out NS_g16.out) 1).trans rfl, (blk_cell (blk_chg BK_g11.out HC.out NS_g11.out) 0).trans rfl, (blk_cell (blk_chg BK_g11.out HC.out NS_g11.out) 1).trans rfl, (blk_cell (blk_chg BK_g10.out HC.out NS_g10.out) 0).trans rfl, (blk_cell (blk_chg BK_g10.out HC.out NS_g10.out) 1).trans rfl, (blk_cell (blk_chg BK_g4.out HC.out NS_g4.out) 0).trans rfl, (blk_cell (blk_chg BK_g5.out HC.out NS_g5.out) 0).trans rfl, (blk_cell (blk_chg BK_g5.out HC.out NS_g5.out) 1).trans rfl, (blk_cell (blk_chg BK_g5.out HC.out NS_g5.out) 2).trans rfl, (blk_cell (blk_chg BK_g5.out HC.out NS_g5.out) 3).trans rfl, (blk_cell (blk_chg BK_g5.out HC.out NS_g5.out) 4).trans rfl, (blk_cell (blk_chg BK_g5.out HC.out NS_g5.out) 5).trans rfl, (blk_cell (blk_chg BK_g5.out HC.out NS_g5.out) 6).trans rfl, (blk_cell BK_g27.out 0).trans rfl, (blk_cell BK_g27.out 1).trans rfl⟩ (fun hHeld => ?_)
         refine with_tabW cs_c.tab cs_c.bits (fun HT_ HW_ => ?_)
         have hb := below_drew1 (Below.refl V213.heap.size V213)
         generalize V213.drew = V214 at hHeld hb ⊢
         replace HC := am (HC.out.step hb)
         replace BK_g27 := bb BK_g27 hb
         clear hb
         refine take_ (i := 0) (N := some 228) (v := ?_) (a' := ?_) #[true, false, false, false, false, false, false, false, false, false, false, false, false, false, false, false, false, false, false, false, false, false] rfl rfl (take_ofW HT_.out HW_.out (by kernel_rfl)) (fun _ _ _ h => h) (Or.inl ⟨by rfl, ?_⟩) hHeld ?_ ?_
         rotate_left
         ·rintro w' ⟨s0, s1, s2, s3, s4, s5, s6, s7, s8, s9, s10, s11, s12, s13, s14, s15⟩
          go_simp
          with_reducible rfl
         rotate_left
         ·simp only [Act.put, List.setIfInBounds_toArray, List.set_cons_zero, List.set_cons_succ, i64_w]
          rfl
         refine take_ (i := 1) (N := some 229) (v := ?_) (a' := ?_) #[true, true, false, false, false, false, false, false, false, false, false, false, false, false, false, false, false, false, false, false, false, false] rfl rfl (take_ofW HT_.out HW_.out (by kernel_rfl)) (fun _ _ _ h => h) (Or.inl ⟨by rfl, ?_⟩) hHeld ?_ ?_
         rotate_left
         ·rintro w' ⟨s0, s1, s2, s3, s4, s5, s6, s7, s8, s9, s10, s11, s12, s13, s14, s15⟩
          go_simp
          with_reducible rfl
         rotate_left
         ·simp only [Act.put, List.setIfInBounds_toArray, List.set_cons_zero, List.set_cons_succ, i64_w]
          rfl
         refine pure_ (i := 2) (N := some 230) (v := ?_) (a' := ?_) #[true, true, true, false, false, false, false, false, false, false, false, false, false, false, false, false, false, false, false, false, false, false] rfl rfl (any_of HT_.out (by kernel_rfl)) (fun _ _ _ h => h) (Or.inl ⟨by rfl, ?_⟩) ?_ ?_
         rotate_left
         ·intro w'
          go_simp
          with_reducible rfl
         rotate_left
         ·simp only [Act.put, List.setIfInBounds_toArray, List.set_cons_zero, List.set_cons_succ, i64_w]
          rfl
         refine pure_ (i := 3) (N := some 231) (v := ?_) (a' := ?_) #[true, true, true, true, false, false, false, false, false, false, false, false, false, false, false, false, false, false, false, false, false, false] rfl rfl (any_of HT_.out (by kernel_rfl)) (fun _ _ _ h => h) (Or.inl ⟨by rfl, ?_⟩) ?_ ?_
         rotate_left
         ·intro w'
          go_simp
          with_reducible rfl
         rotate_left
         ·simp only [Act.put, List.setIfInBounds_toArray, List.set_cons_zero, List.set_cons_succ, i64_w]
          rfl
         refine pure_ (i := 4) (N := some 232) (v := ?_) (a' := ?_) #[true, true, true, true, true, false, false, false, false, false, false, false, false, false, false, false, false, false, false, false, false, false] rfl rfl (any_of HT_.out (by kernel_rfl)) (fun _ _ _ h => h) (Or.inl ⟨by rfl, ?_⟩) ?_ ?_
         rotate_left
         ·intro w'
          go_simp
          with_reducible rfl
         rotate_left
         ·simp only [Act.put, List.setIfInBounds_toArray, List.set_cons_zero, List.set_cons_succ, i64_w]
          rfl
         refine pure_ (i := 5) (N := some 233) (v := ?_) (a' := ?_) #[true, true, true, true, true, true, false, false, false, false, false, false, false, false, false, false, false, false, false, false, false, false] rfl rfl (any_of HT_.out (by kernel_rfl)) (fun _ _ _ h => h) (Or.inl ⟨by rfl, ?_⟩) ?_ ?_
         rotate_left
         ·intro w'
          go_simp
          with_reducible rfl
         rotate_left
         ·simp only [Act.put, List.setIfInBounds_toArray, List.set_cons_zero, List.set_cons_succ, i64_w]
          rfl
         refine pure_ (i := 6) (N := some 234) (v := ?_) (a' := ?_) #[true, true, true, true, true, true, true, false, false, false, false, false, false, false, false, false, false, false, false, false, false, false] rfl rfl (any_of HT_.out (by kernel_rfl)) (fun _ _ _ h => h) (Or.inl ⟨by rfl, ?_⟩) ?_ ?_
         rotate_left
         ·intro w'
          go_simp
          with_reducible rfl
         rotate_left
         ·simp only [Act.put, List.setIfInBounds_toArray, List.set_cons_zero, List.set_cons_succ, i64_w]
          rfl
         refine pure_ (i := 7) (N := some 235) (v := ?_) (a' := ?_) #[true, true, true, true, true, true, true, true, false, false, false, false, false, false, false, false, false, false, false, false, false, false] rfl rfl (any_of HT_.out (by kernel_rfl)) (fun _ _ _ h => h) (Or.inl ⟨by rfl, ?_⟩) ?_ ?_
         rotate_left
         ·intro w'
          go_simp
          with_reducible rfl
         rotate_left
         ·simp only [Act.put, List.setIfInBounds_toArray, List.set_cons_zero, List.set_cons_succ, i64_w]
          rfl
         refine pure_ (i := 8) (N := some 236) (v := ?_) (a' := ?_) #[true, true, true, true, true, true, true, true, true, false, false, false, false, false, false, false, false, false, false, false, false, false] rfl rfl (any_of HT_.out (by kernel_rfl)) (fun _ _ _ h => h) (Or.inl ⟨by rfl, ?_⟩) ?_ ?_
         rotate_left
         ·intro w'
          go_simp
          with_reducible rfl
         rotate_left
         ·simp only [Act.put, List.setIfInBounds_toArray, List.set_cons_zero, List.set_cons_succ, i64_w]
          rfl
         refine take_ (i := 9) (N := some 237) (v := ?_) (a' := ?_) #[true, true, true, true, true, true, true, true, true, true, false, false, false, false, false, false, false, false, false, false, false, false] rfl rfl (take_ofW HT_.out HW_.out (by kernel_rfl)) (fun _ _ _ h => h) (Or.inl ⟨by rfl, ?_⟩) hHeld ?_ ?_
         rotate_left
         ·rintro w' ⟨s0, s1, s2, s3, s4, s5, s6, s7, s8, s9, s10, s11, s12, s13, s14, s15⟩
          go_simp
          with_reducible rfl
         rotate_left
         ·simp only [Act.put, List.setIfInBounds_toArray, List.set_cons_zero, List.set_cons_succ, i64_w]
          rfl
         refine take_ (i := 10) (N := some 238) (v := ?_) (a' := ?_) #[true, true, true, true, true, true, true, true, true, true, true, false, false, false, false, false, false, false, false, false, false, false] rfl rfl (take_ofW HT_.out HW_.out (by kernel_rfl)) (fun _ _ _ h => h) (Or.inl ⟨by rfl, ?_⟩) hHeld ?_ ?_
         rotate_left
         ·rintro w' ⟨s0, s1, s2, s3, s4, s5, s6, s7, s8, s9, s10, s11, s12, s13, s14, s15⟩
          go_simp
          with_reducible rfl
         rotate_left
         ·simp only [Act.put, List.setIfInBounds_toArray, List.set_cons_zero, List.set_cons_succ, i64_w]
          rfl
         refine one_ (i := 11) (N := some 239) #[true, true, true, true, true, true, true, true, true, true, true, true, false, false, false, false, false, false, false, false, false, false] rfl rfl (one_of HT_.out (by kernel_rfl)) (by decide) (fun K hK => ?_)
         refine goes_ Tryd.func11 (by kernel_rfl) rfl #[.agg #[.slice Ao code.length co, .slice Bo cols.length eo], .agg #[.slice Ak code.length ck, .slice Bk cols.length dk]] (by rfl) rfl rfl (by first | rfl | (simp [Act.eval]; done) | (go_simp; done) | simp [Act.eval, *]) ?_
         refine (sluicelaw7_sameProgram.calls ks Ao co code Bo eo cols Ak ck code Bk dk cols true _ (rd_at ZO.out HC.out) (Kd.R_reads' ZO.out).2.1 (rd_at ZL.out HC.out) (Kd.R_reads' ZL.out).2.1 (rd_at YK.out HC.out) (Kd.R_reads' YK.out).2.1 (rd_at YL.out HC.out) (Kd.R_reads' YL.out).2.1 HSM.out).mono ?_
         rintro e V215 ⟨rfl, hb⟩
         replace HC := am (HC.out.step hb)
         replace BK_g27 := bb BK_g27 hb
         clear hb
         refine ⟨_, rfl, ?_⟩
         refine hK.out _ _ ⟨(blk_cell (blk_chg BK_g16.out HC.out NS_g16.out) 0).trans rfl, (blk_cell (blk_chg BK_g16.out HC.out NS_g16.out) 1).trans rfl, (blk_cell (blk_chg BK_g11.out HC.out NS_g11.out) 0).trans rfl, (blk_cell (blk_chg BK_g11.out HC.out NS_g11.out) 1).trans rfl, (blk_cell (blk_chg BK_g10.out HC.out NS_g10.out) 0).trans rfl, (blk_cell (blk_chg BK_g10.out HC.out NS_g10.out) 1).trans rfl, (blk_cell (blk_chg BK_g4.out HC.out NS_g4.out) 0).trans rfl, (blk_cell (blk_chg BK_g5.out HC.out NS_g5.out) 0).trans rfl, (blk_cell (blk_chg BK_g5.out HC.out NS_g5.out) 1).trans rfl, (blk_cell (blk_chg BK_g5.out HC.out NS_g5.out) 2).trans rfl, (blk_cell (blk_chg BK_g5.out HC.out NS_g5.out) 3).trans rfl, (blk_cell (blk_chg BK_g5.out HC.out NS_g5.out) 4).trans rfl, (blk_cell (blk_chg BK_g5.out HC.out NS_g5.out) 5).trans rfl, (blk_cell (blk_chg BK_g5.out HC.out NS_g5.out) 6).trans rfl, (blk_cell BK_g27.out 0).trans rfl, (blk_cell BK_g27.out 1).trans rfl⟩ (fun hHeld => ?_)
         clear hK K
         refine norm_ (a' := ?_) ?_ ?_
         rotate_left
         ·show Act.put _ (some 239) _ = _
          simp only [Act.put, List.setIfInBounds_toArray, List.set_cons_zero, List.set_cons_succ, i64_w]
          rfl
         refine pure_ (i := 12) (N := some 240) (v := ?_) (a' := ?_) #[true, true, true, true, true, true, true, true, true, true, true, true, true, false, false, false, false, false, false, false, false, false] rfl rfl (any_of HT_.out (by kernel_rfl)) (fun _ _ _ h => h) (Or.inl ⟨by rfl, ?_⟩) ?_ ?_
         rotate_left
         ·intro w'
          go_simp
          with_reducible rfl
         rotate_left
         ·simp only [Act.put, List.setIfInBounds_toArray, List.set_cons_zero, List.set_cons_succ, i64_w]
          rfl
         refine pure_ (i := 13) (N := some 241) (v := ?_) (a' := ?_) #[true, true, true, true, true, true, true, true, true, true, true, true, true, true, false, false, false, false, false, false, false, false] rfl rfl (any_of HT_.out (by kernel_rfl)) (fun _ _ _ h => h) (Or.inl ⟨by rfl, ?_⟩) ?_ ?_
         rotate_left
         ·intro w'
          go_simp
          with_reducible rfl
         rotate_left
         ·simp only [Act.put, List.setIfInBounds_toArray, List.set_cons_zero, List.set_cons_succ, i64_w]
          rfl
         refine take_ (i := 14) (N := some 242) (v := ?_) (a' := ?_) #[true, true, true, true, true, true, true, true, true, true, true, true, true, true, true, false, false, false, false, false, false, false] rfl rfl (take_ofW HT_.out HW_.out (by kernel_rfl)) (fun _ _ _ h => h) (Or.inl ⟨by rfl, ?_⟩) hHeld ?_ ?_
         rotate_left
         ·rintro w' ⟨s0, s1, s2, s3, s4, s5, s6, s7, s8, s9, s10, s11, s12, s13, s14, s15⟩
          go_simp
          with_reducible rfl
         rotate_left
         ·simp only [Act.put, List.setIfInBounds_toArray, List.set_cons_zero, List.set_cons_succ, i64_w]
          rfl
         refine take_ (i := 15) (N := some 243) (v := ?_) (a' := ?_) #[true, true, true, true, true, true, true, true, true, true, true, true, true, true, true, true, false, false, false, false, false, false] rfl rfl (take_ofW HT_.out HW_.out (by kernel_rfl)) (fun _ _ _ h => h) (Or.inl ⟨by rfl, ?_⟩) hHeld ?_ ?_
         rotate_left
         ·rintro w' ⟨s0, s1, s2, s3, s4, s5, s6, s7, s8, s9, s10, s11, s12, s13, s14, s15⟩
          go_simp
          with_reducible rfl
         rotate_left
         ·simp only [Act.put, List.setIfInBounds_toArray, List.set_cons_zero, List.set_cons_succ, i64_w]
          rfl
         refine pure_ (i := 16) (N := some 244) (v := ?_) (a' := ?_) #[true, true, true, true, true, true, true, true, true, true, true, true, true, true, true, true, true, false, false, false, false, false] rfl rfl (any_of HT_.out (by kernel_rfl)) (fun _ _ _ h => h) (Or.inl ⟨by rfl, ?_⟩) ?_ ?_
         rotate_left
         ·intro w'
          go_simp
          with_reducible rfl
         rotate_left
         ·simp only [Act.put, List.setIfInBounds_toArray, List.set_cons_zero, List.set_cons_succ, i64_w]
          rfl
         refine take_ (i := 18) (N := some 246) (v := ?_) (a' := ?_) #[true, true, true, true, true, true, true, true, true, true, true, true, true, true, true, true, true, false, true, false, false, false] rfl rfl (take_ofW HT_.out HW_.out (by kernel_rfl)) (fun _ _ _ h => h) (Or.inl ⟨by rfl, ?_⟩) hHeld ?_ ?_
         rotate_left
         ·rintro w' ⟨s0, s1, s2, s3, s4, s5, s6, s7, s8, s9, s10, s11, s12, s13, s14, s15⟩
          go_simp
          with_reducible rfl
         rotate_left
         ·simp only [Act.put, List.setIfInBounds_toArray, List.set_cons_zero, List.set_cons_succ, i64_w]
          rfl
         refine one_ (i := 17) (N := some 245) #[true, true, true, true, true, true, true, true, true, true, true, true, true, true, true, true, true, true, true, false, false, false] rfl rfl (one_of HT_.out (by kernel_rfl)) (by decide) (fun K hK => ?_)
         refine goes_ Tryd.func8 (by kernel_rfl) rfl #[.agg #[.slice T0 types.length tc], .agg #[.slice Q0 its.length c0, .int .i64 q1, .int .i64 q2, .slice Q3 wh.length c3, .int .i64 q4, .string q5, .slice Q6 ret.length c6], .slice A t.length c] (by rfl) rfl rfl (by first | rfl | (simp [Act.eval]; done) | (go_simp; done) | simp [Act.eval, *]) ?_
         refine (comp_is Q0 c0 its q1 q2 Q3 c3 wh q4 q5 Q6 c6 ret T0 tc types A c t _ (HGK.out.below (ss_below HB8.out HC.out HZ.out)) (HQ.out.below (ss_below HB8.out HC.out HZ.out)) (Kd.C_below HTY.out (ss_below HB8.out HC.out HZ.out)) HTC.out HTS.out (Kd.C_below HP.out (ss_below HB8.out HC.out HZ.out)) HS.out code cols HCV.out).mono ?_
         rintro e V216 ⟨Am, cm, An, cn, rfl, hRc, hSl, hb⟩
         have MR := am (Kd.R_reads' hRc)
         have MS := am (Kd.S_reads' hSl)
         clear hRc hSl
         replace HC := am (HC.out.step hb)
         replace BK_g27 := bb BK_g27 hb
         clear hb
         refine ⟨_, rfl, ?_⟩
         refine hK.out _ _ ⟨(blk_cell (blk_chg BK_g16.out HC.out NS_g16.out) 0).trans rfl, (blk_cell (blk_chg BK_g16.out HC.out NS_g16.out) 1).trans rfl, (blk_cell (blk_chg BK_g11.out HC.out NS_g11.out) 0).trans rfl, (blk_cell (blk_chg BK_g11.out HC.out NS_g11.out) 1).trans rfl, (blk_cell (blk_chg BK_g10.out HC.out NS_g10.out) 0).trans rfl, (blk_cell (blk_chg BK_g10.out HC.out NS_g10.out) 1).trans rfl, (blk_cell (blk_chg BK_g4.out HC.out NS_g4.out) 0).trans rfl, (blk_cell (blk_chg BK_g5.out HC.out NS_g5.out) 0).trans rfl, (blk_cell (blk_chg BK_g5.out HC.out NS_g5.out) 1).trans rfl, (blk_cell (blk_chg BK_g5.out HC.out NS_g5.out) 2).trans rfl, (blk_cell (blk_chg BK_g5.out HC.out NS_g5.out) 3).trans rfl, (blk_cell (blk_chg BK_g5.out HC.out NS_g5.out) 4).trans rfl, (blk_cell (blk_chg BK_g5.out HC.out NS_g5.out) 5).trans rfl, (blk_cell (blk_chg BK_g5.out HC.out NS_g5.out) 6).trans rfl, (blk_cell BK_g27.out 0).trans rfl, (blk_cell BK_g27.out 1).trans rfl⟩ (fun hHeld => ?_)
         clear hK K
         refine norm_ (a' := ?_) ?_ ?_
         rotate_left
         ·show Act.put _ (some 245) _ = _
          simp only [Act.put, List.setIfInBounds_toArray, List.set_cons_zero, List.set_cons_succ, i64_w]
          rfl
         refine one_ (i := 19) (N := some 247) #[true, true, true, true, true, true, true, true, true, true, true, true, true, true, true, true, true, true, true, true, false, false] rfl rfl (one_of HT_.out (by kernel_rfl)) (by decide) (fun K hK => ?_)
         refine goes_ Tryd.func11 (by kernel_rfl) rfl #[.agg #[.slice Am code.length cm, .slice An cols.length cn], .agg #[.slice Ak code.length ck, .slice Bk cols.length dk]] (by rfl) rfl rfl (by first | rfl | (simp [Act.eval]; done) | (go_simp; done) | simp [Act.eval, *]) ?_
         refine (sluicelaw7_sameProgram.calls ks Am cm code An cn cols Ak ck code Bk dk cols true _ MR.out.2.2 MR.out.2.1 MS.out.2.2 MS.out.2.1 (rd_at YK.out HC.out) (Kd.R_reads' YK.out).2.1 (rd_at YL.out HC.out) (Kd.R_reads' YL.out).2.1 HSM.out).mono ?_
         rintro e V217 ⟨rfl, hb⟩
         replace HC := am (HC.out.step hb)
         replace BK_g27 := bb BK_g27 hb
         clear hb
         refine ⟨_, rfl, ?_⟩
         refine hK.out _ _ ⟨(blk_cell (blk_chg BK_g16.out HC.out NS_g16.out) 0).trans rfl, (blk_cell (blk_chg BK_g16.out HC.out NS_g16.out) 1).trans rfl, (blk_cell (blk_chg BK_g11.out HC.out NS_g11.out) 0).trans rfl, (blk_cell (blk_chg BK_g11.out HC.out NS_g11.out) 1).trans rfl, (blk_cell (blk_chg BK_g10.out HC.out NS_g10.out) 0).trans rfl, (blk_cell (blk_chg BK_g10.out HC.out NS_g10.out) 1).trans rfl, (blk_cell (blk_chg BK_g4.out HC.out NS_g4.out) 0).trans rfl, (blk_cell (blk_chg BK_g5.out HC.out NS_g5.out) 0).trans rfl, (blk_cell (blk_chg BK_g5.out HC.out NS_g5.out) 1).trans rfl, (blk_cell (blk_chg BK_g5.out HC.out NS_g5.out) 2).trans rfl, (blk_cell (blk_chg BK_g5.out HC.out NS_g5.out) 3).trans rfl, (blk_cell (blk_chg BK_g5.out HC.out NS_g5.out) 4).trans rfl, (blk_cell (blk_chg BK_g5.out HC.out NS_g5.out) 5).trans rfl, (blk_cell (blk_chg BK_g5.out HC.out NS_g5.out) 6).trans rfl, (blk_cell BK_g27.out 0).trans rfl, (blk_cell BK_g27.out 1).trans rfl⟩ (fun hHeld => ?_)
         clear hK K
         refine norm_ (a' := ?_) ?_ ?_
         rotate_left
         ·show Act.put _ (some 247) _ = _
          simp only [Act.put, List.setIfInBounds_toArray, List.set_cons_zero, List.set_cons_succ, i64_w]
          rfl
         refine pure_ (i := 20) (N := some 248) (v := ?_) (a' := ?_) #[true, true, true, true, true, true, true, true, true, true, true, true, true, true, true, true, true, true, true, true, true, false] rfl rfl (any_of HT_.out (by kernel_rfl)) (fun _ _ _ h => h) (Or.inl ⟨by rfl, ?_⟩) ?_ ?_
         rotate_left
         ·intro w'
          go_simp
          with_reducible rfl
         rotate_left
         ·simp only [Act.put, List.setIfInBounds_toArray, List.set_cons_zero, List.set_cons_succ, i64_w]
          rfl
         refine pure_ (i := 21) (N := some 8) (v := ?_) (a' := ?_) #[true, true, true, true, true, true, true, true, true, true, true, true, true, true, true, true, true, true, true, true, true, true] rfl rfl (any_of HT_.out (by kernel_rfl)) (fun _ _ _ h => h) (Or.inl ⟨by rfl, ?_⟩) ?_ ?_
         rotate_left
         ·intro w'
          go_simp
          with_reducible rfl
         rotate_left
         ·simp only [Act.put, List.setIfInBounds_toArray, List.set_cons_zero, List.set_cons_succ, i64_w]
          rfl
         refine done_ (done_of HT_.out (by kernel_rfl)) ?_
         clear hHeld
         go_wp2
         go_ret
         exact ⟨rfl, (ss_below HB8.out HC.out HZ.out)⟩
   have HBE := am hbe
   clear hbe
   go_enter Tryd.func3, Tryd.ntmps3
   go_wp2_with (first | ((with_reducible refine gate_dst (N := 4) rfl ?_); refine box_event ?hg (N := 4) ?hd (cs := #[.slice T0 types.length tc]) (t := 24) ?hr ?_; (case hd => rfl); (case hg => rfl); (case hr => first | (go_simp; done) | (go_simp; rfl)); intro g4 hg_ W1 hbox hb; have GE_g4 := ge1 hg_ HB; replace HB := bs HB hb; have BK_g4 := am hbox; have c_g4 := cf1 BK_g4; clear hb hbox hg_) | ((with_reducible refine gate_dst (N := 5) rfl ?_); refine box_event ?hg (N := 5) ?hd (cs := #[.slice Q0 its.length c0, .int .i64 q1, .int .i64 q2, .slice Q3 wh.length c3, .int .i64 q4, .string q5, .slice Q6 ret.length c6]) (t := 31) ?hr ?_; (case hd => rfl); (case hg => rfl); (case hr => first | (go_simp; done) | (go_simp; rfl)); intro g5 hg_ W2 hbox hb; have GE_g5 := ge1 hg_ HB; have NE_g5_g4 := ne1 hg_ BK_g4; have NE_g4_g5 := ne2 NE_g5_g4; replace HB := bs HB hb; (try clear c_g4); replace BK_g4 := bb BK_g4 hb; have c_g4 := cf1 BK_g4; have BK_g5 := am hbox; have c_g5 := cf7 BK_g5; clear hb hbox hg_) | ((with_reducible refine gate_dst (N := 7) rfl ?_); refine box_event ?hg (N := 7) ?hd (cs := #[.slice AL L.length cL, .int .i64 each, .int .i64 at_]) (t := 34) ?hr ?_; (case hd => rfl); (case hg => rfl); (case hr => first | (go_simp; done) | (go_simp; rfl)); intro g7 hg_ W3 hbox hb; have GE_g7 := ge1 hg_ HB; have NE_g7_g4 := ne1 hg_ BK_g4; have NE_g4_g7 := ne2 NE_g7_g4; have NE_g7_g5 := ne1 hg_ BK_g5; have NE_g5_g7 := ne2 NE_g7_g5; replace HB := bs HB hb; (try clear c_g4); replace BK_g4 := bb BK_g4 hb; have c_g4 := cf1 BK_g4; (try clear c_g5); replace BK_g5 := bb BK_g5 hb; have c_g5 := cf7 BK_g5; have BK_g7 := am hbox; have c_g7 := cf3 BK_g7; clear hb hbox hg_) | (go_at_call 4; refine (sluiceref6_QueryBeyond.calls kq Q0 c0 its q1 q2 Q3 c3 wh q4 q5 Q6 c6 ret false _ (Kd.C_below HQ.out.1 HB.out) HQ.out.2.1 (Kd.C_below HQ.out.2.2.1 HB.out) HQ.out.2.2.2.1 (Kd.C_below HQ.out.2.2.2.2.1 HB.out) HQ.out.2.2.2.2.2.1 HQB.out).mono ?_; rintro e W4 ⟨rfl, hb⟩; replace HB := bs HB hb; (try clear c_g4); replace BK_g4 := bb BK_g4 hb; have c_g4 := cf1 BK_g4; (try clear c_g5); replace BK_g5 := bb BK_g5 hb; have c_g5 := cf7 BK_g5; (try clear c_g7); replace BK_g7 := bb BK_g7 hb; have c_g7 := cf3 BK_g7; clear hb) | (go_at_call 5; refine (sluiceref6_Beyond.calls kt A c t false _ (Kd.C_below HP.out HB.out) HPC.out HTB.out).mono ?_; rintro e W5 ⟨rfl, hb⟩; replace HB := bs HB hb; (try clear c_g4); replace BK_g4 := bb BK_g4 hb; have c_g4 := cf1 BK_g4; (try clear c_g5); replace BK_g5 := bb BK_g5 hb; have c_g5 := cf7 BK_g5; (try clear c_g7); replace BK_g7 := bb BK_g7 hb; have c_g7 := cf3 BK_g7; clear hb) | (go_at_call 6; refine (ref7_Beyond AL cL L _ (Kd.C_below HL.out HB.out) HLN.out).mono ?_; rintro e W6 ⟨rfl, hw_⟩; subst hw_; rw [HBE.out]))
   go_ret
   exact ⟨rfl, HB.out⟩
  go_enter Tryd.func3, Tryd.ntmps3
  go_wp2_with (first | ((with_reducible refine gate_dst (N := 4) rfl ?_); refine box_event ?hg (N := 4) ?hd (cs := #[.slice T0 types.length tc]) (t := 24) ?hr ?_; (case hd => rfl); (case hg => rfl); (case hr => first | (go_simp; done) | (go_simp; rfl)); intro g4 hg_ W1 hbox hb; have GE_g4 := ge1 hg_ HB; replace HB := bs HB hb; have BK_g4 := am hbox; have c_g4 := cf1 BK_g4; clear hb hbox hg_) | ((with_reducible refine gate_dst (N := 5) rfl ?_); refine box_event ?hg (N := 5) ?hd (cs := #[.slice Q0 its.length c0, .int .i64 q1, .int .i64 q2, .slice Q3 wh.length c3, .int .i64 q4, .string q5, .slice Q6 ret.length c6]) (t := 31) ?hr ?_; (case hd => rfl); (case hg => rfl); (case hr => first | (go_simp; done) | (go_simp; rfl)); intro g5 hg_ W2 hbox hb; have GE_g5 := ge1 hg_ HB; have NE_g5_g4 := ne1 hg_ BK_g4; have NE_g4_g5 := ne2 NE_g5_g4; replace HB := bs HB hb; (try clear c_g4); replace BK_g4 := bb BK_g4 hb; have c_g4 := cf1 BK_g4; have BK_g5 := am hbox; have c_g5 := cf7 BK_g5; clear hb hbox hg_) | ((with_reducible refine gate_dst (N := 7) rfl ?_); refine box_event ?hg (N := 7) ?hd (cs := #[.slice AL L.length cL, .int .i64 each, .int .i64 at_]) (t := 34) ?hr ?_; (case hd => rfl); (case hg => rfl); (case hr => first | (go_simp; done) | (go_simp; rfl)); intro g7 hg_ W3 hbox hb; have GE_g7 := ge1 hg_ HB; have NE_g7_g4 := ne1 hg_ BK_g4; have NE_g4_g7 := ne2 NE_g7_g4; have NE_g7_g5 := ne1 hg_ BK_g5; have NE_g5_g7 := ne2 NE_g7_g5; replace HB := bs HB hb; (try clear c_g4); replace BK_g4 := bb BK_g4 hb; have c_g4 := cf1 BK_g4; (try clear c_g5); replace BK_g5 := bb BK_g5 hb; have c_g5 := cf7 BK_g5; have BK_g7 := am hbox; have c_g7 := cf3 BK_g7; clear hb hbox hg_) | (go_at_call 4; refine (sluiceref6_QueryBeyond.calls kq Q0 c0 its q1 q2 Q3 c3 wh q4 q5 Q6 c6 ret false _ (Kd.C_below HQ.out.1 HB.out) HQ.out.2.1 (Kd.C_below HQ.out.2.2.1 HB.out) HQ.out.2.2.2.1 (Kd.C_below HQ.out.2.2.2.2.1 HB.out) HQ.out.2.2.2.2.2.1 HQB.out).mono ?_; rintro e W4 ⟨rfl, hb⟩; replace HB := bs HB hb; (try clear c_g4); replace BK_g4 := bb BK_g4 hb; have c_g4 := cf1 BK_g4; (try clear c_g5); replace BK_g5 := bb BK_g5 hb; have c_g5 := cf7 BK_g5; (try clear c_g7); replace BK_g7 := bb BK_g7 hb; have c_g7 := cf3 BK_g7; clear hb) | (go_at_call 5; refine (sluiceref6_Beyond.calls kt A c t true _ (Kd.C_below HP.out HB.out) HPC.out HTB.out).mono ?_; rintro e W5 ⟨rfl, hb⟩; replace HB := bs HB hb; (try clear c_g4); replace BK_g4 := bb BK_g4 hb; have c_g4 := cf1 BK_g4; (try clear c_g5); replace BK_g5 := bb BK_g5 hb; have c_g5 := cf7 BK_g5; (try clear c_g7); replace BK_g7 := bb BK_g7 hb; have c_g7 := cf3 BK_g7; clear hb))
  go_ret
  exact ⟨rfl, HB.out⟩
 go_enter Tryd.func3, Tryd.ntmps3
 go_wp2_with (first | ((with_reducible refine gate_dst (N := 4) rfl ?_); refine box_event ?hg (N := 4) ?hd (cs := #[.slice T0 types.length tc]) (t := 24) ?hr ?_; (case hd => rfl); (case hg => rfl); (case hr => first | (go_simp; done) | (go_simp; rfl)); intro g4 hg_ W1 hbox hb; have GE_g4 := ge1 hg_ HB; replace HB := bs HB hb; have BK_g4 := am hbox; have c_g4 := cf1 BK_g4; clear hb hbox hg_) | ((with_reducible refine gate_dst (N := 5) rfl ?_); refine box_event ?hg (N := 5) ?hd (cs := #[.slice Q0 its.length c0, .int .i64 q1, .int .i64 q2, .slice Q3 wh.length c3, .int .i64 q4, .string q5, .slice Q6 ret.length c6]) (t := 31) ?hr ?_; (case hd => rfl); (case hg => rfl); (case hr => first | (go_simp; done) | (go_simp; rfl)); intro g5 hg_ W2 hbox hb; have GE_g5 := ge1 hg_ HB; have NE_g5_g4 := ne1 hg_ BK_g4; have NE_g4_g5 := ne2 NE_g5_g4; replace HB := bs HB hb; (try clear c_g4); replace BK_g4 := bb BK_g4 hb; have c_g4 := cf1 BK_g4; have BK_g5 := am hbox; have c_g5 := cf7 BK_g5; clear hb hbox hg_) | ((with_reducible refine gate_dst (N := 7) rfl ?_); refine box_event ?hg (N := 7) ?hd (cs := #[.slice AL L.length cL, .int .i64 each, .int .i64 at_]) (t := 34) ?hr ?_; (case hd => rfl); (case hg => rfl); (case hr => first | (go_simp; done) | (go_simp; rfl)); intro g7 hg_ W3 hbox hb; have GE_g7 := ge1 hg_ HB; have NE_g7_g4 := ne1 hg_ BK_g4; have NE_g4_g7 := ne2 NE_g7_g4; have NE_g7_g5 := ne1 hg_ BK_g5; have NE_g5_g7 := ne2 NE_g7_g5; replace HB := bs HB hb; (try clear c_g4); replace BK_g4 := bb BK_g4 hb; have c_g4 := cf1 BK_g4; (try clear c_g5); replace BK_g5 := bb BK_g5 hb; have c_g5 := cf7 BK_g5; have BK_g7 := am hbox; have c_g7 := cf3 BK_g7; clear hb hbox hg_) | (go_at_call 4; refine (sluiceref6_QueryBeyond.calls kq Q0 c0 its q1 q2 Q3 c3 wh q4 q5 Q6 c6 ret true _ (Kd.C_below HQ.out.1 HB.out) HQ.out.2.1 (Kd.C_below HQ.out.2.2.1 HB.out) HQ.out.2.2.2.1 (Kd.C_below HQ.out.2.2.2.2.1 HB.out) HQ.out.2.2.2.2.2.1 HQB.out).mono ?_; rintro e W4 ⟨rfl, hb⟩; replace HB := bs HB hb; (try clear c_g4); replace BK_g4 := bb BK_g4 hb; have c_g4 := cf1 BK_g4; (try clear c_g5); replace BK_g5 := bb BK_g5 hb; have c_g5 := cf7 BK_g5; (try clear c_g7); replace BK_g7 := bb BK_g7 hb; have c_g7 := cf3 BK_g7; clear hb))
 go_ret
 exact ⟨rfl, HB.out⟩
end Go.Proofs.YtbhpjpeknooppaaDoor.M
