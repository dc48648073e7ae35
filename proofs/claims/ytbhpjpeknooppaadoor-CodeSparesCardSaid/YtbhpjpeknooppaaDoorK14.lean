/- Families of rows that lie apart, and the contracts of colsApart and codesApart. -/
import Derived.Test.YtbhpjpeknooppaaDoorK02
import Derived.Test.YtbhpjpeknooppaaDoorK11
import Derived.Test.YtbhpjpeknooppaaDoorK12
import Derived.BigQuiet
import Derived.Deep.QuietTactic
import Derived.IntWalk
import Derived.LoopTactic
import Derived.WalkMore
namespace Go.Proofs.YtbhpjpeknooppaaDoor.M
open Go.RowKit Go.Proofs.YtbhpjpeknooppaaDoorW.PrintWords Go.Proofs.YtbhpjpeknooppaaDoorW.PrintLast Go.Proofs.YtbhpjpeknooppaaDoorW.PrintMore
open Go.Proofs.YtbhpjpeknooppaaDoor.PCodeSpares
set_option linter.unusedVariables false
section
variable {P : Program} (w : World)
theorem run_append_kept (base : Nat) (t ty e : TypeId) (i : TypeInfo) (z : Value) (size bytes : Nat) (ht : P.underlying t = some (.slice e)) (hi : P.info? e = some i) (hz : i.zero = some z)
  (hsize : i.size = size) (hby : i.bytes = bytes) (hzs : z.cells.size = size) (hsz : 0 < size)
  (v : Value) (n : Nat) (xs : List Value) (hown : w.ownsRow base e size v n xs)
  (a : Addr) (m c : Nat) (hm0 : 0 < m) (news : List Value) (hl : news.length = m * size) (hnews : ∀ j u, news[j]? = some u → w.cell? (a.add j) = some u) (h1 : ∀ u ∈ news, u.oneCell' = true)
  (h63 : n + m ≤ maxLen) (hbytes : (n + m) * bytes ≤ 140737488355328) (hbase : base ≤ w.heap.size) :
  ∃ v' w', (Builtin.append_ #[t, t] ty #[v, .slice (some a) m c]).run P w = .ok v' w' ∧ w'.ownsRow base e size v' (n + m) (xs ++ news) ∧ w'.ownsRow base e size v n xs ∧ w.grownBy w' v.ownBlock ∧
   ((v'.ownBlock = v.ownBlock ∧ w'.heap.size = w.heap.size) ∨ v'.ownBlock = some w.heap.size) := by
 subst hsize
 subst hby
 have hsmall : n + m ≤ 9223372036854775807 := by simp only [maxLen] at h63; omega
 have hlen : (xs ++ news).length = (n + m) * i.size := by rw [List.length_append, hown.1, hl, Nat.add_mul]
 have grown : ∀ (old : Nat), old < n + m → ∀ (row : Option Nat),
   (w.drew.alloc (.cells (xs.toArray ++ news.toArray ++ Builtin.zeroCells z.cells (grownCap w (n + m) old e - (n + m))) e)).ownsRow base e i.size
    (.slice (some ⟨w.heap.size, 0, none⟩) (n + m) (grownCap w (n + m) old e)) (n + m) (xs ++ news) ∧
   w.grownBy (w.drew.alloc (.cells (xs.toArray ++ news.toArray ++ Builtin.zeroCells z.cells (grownCap w (n + m) old e - (n + m))) e)) row := by
  intro old ho row
  have hge := grownCap_ge w (n + m) old e
  have hcm : grownCap w (n + m) old e ≤ maxLen := grownCap_le_maxLen w (n + m) old e h63
  refine ⟨⟨hlen, .inr ⟨w.heap.size, _, _, rfl, hbase, heap_alloc_new w.drew _, hge, hcm, ?_, ?_⟩⟩, ⟨rfl, rfl, rfl, by simp, fun k hk _ => Below.heap_alloc w.drew _ k hk⟩⟩
  ·simp only [Array.size_append, List.size_toArray, size_zeroCells, hzs, hown.1, hl, ← Nat.add_mul]
   congr 1
   omega
  simp only [Array.toList_append, List.append_assoc]
  rw [← List.append_assoc, ← hlen]
  exact List.take_left
 rcases hown.2 with ⟨rfl, rfl⟩ | ⟨g, cap, cur, rfl, hbg, hg, hnc, hcm, hcs, htake⟩
 ·have hx : xs = [] := List.eq_nil_of_length_eq_zero (by simpa using hown.1)
  subst hx
  have hr := run_append_nil (P := P) w t ty e i z ht hi hz a m c news hl hnews hm0 (by omega) (by have hb := hbytes; simp only [Nat.zero_add] at hb; omega)
  have hgr := grown 0 (by omega) (Value.ownBlock (.slice none 0 0))
  simp only [Nat.zero_add, List.nil_append, Array.empty_append] at hgr ⊢
  exact ⟨_, _, hr, hgr.1, World.ownsRow_nil _ base e i.size, hgr.2, .inr rfl⟩
 by_cases hroom : n + m ≤ cap
 ·have hfit : n * i.size + news.length ≤ cur.size := by rw [hl, hcs, ← Nat.add_mul]; exact Nat.mul_le_mul_right _ hroom
  have hr := run_append_room (P := P) w t ty e i ht hi g n cap cur hg a m c news hl hnews h1 hroom hfit
  have hsz2 : (cur.toList.take (n * i.size) ++ news ++ cur.toList.drop (n * i.size + news.length)).toArray.size = cap * i.size := by
   simp only [List.size_toArray, List.length_append, List.length_take, List.length_drop, Array.length_toList]
   omega
  refine ⟨_, _, hr, ⟨hlen, .inr ⟨g, cap, _, rfl, hbg, setRow_heap w g cur _ e _ hg, hroom, hcm, hsz2, ?_⟩⟩, ⟨hown.1, .inr ⟨g, cap, _, rfl, hbg, setRow_heap w g cur _ e _ hg, hnc, hcm, hsz2, ?_⟩⟩, ⟨rfl, rfl, rfl, by simp, fun k _ hk => setRow_other w g k _ (fun e => hk (by simp [Value.ownBlock, e]))⟩, .inl ⟨rfl, by simp⟩⟩
  ·rw [htake, ← hlen]
   exact List.take_left
  rw [htake, List.append_assoc, ← hown.1]
  exact List.take_left
 have holds : ∀ j u, xs[j]? = some u → w.cell? ((⟨g, 0, none⟩ : Addr).add j) = some u := hown.cells (g := g) rfl
 have hr := run_append_grow (P := P) w t ty e i z ht hi hz ⟨g, 0, none⟩ n cap xs hown.1 holds a m c news hl hnews (by omega) (by omega) (growslice_fits (by omega) hbytes)
 have hgr := grown cap (by omega) (Value.ownBlock (.slice (some ⟨g, 0, none⟩) n cap))
 refine ⟨_, _, hr, hgr.1, ⟨hown.1, .inr ⟨g, cap, cur, rfl, hbg, ?_, hnc, hcm, hcs, htake⟩⟩, hgr.2, .inr rfl⟩
 exact (Below.heap_alloc w.drew _ g (Array.getElem?_eq_some_iff.1 hg).1).trans hg
end
section
variable {P : Program} {ops : Array Oper} {rest : List Oper} {o : Oper} {a : Act} {Q : Exit → Act → World → Prop}
theorem wp_append_kept {W : World} {K : Act → World → Prop} (base : Nat) (s x : Operand) (t e : TypeId) (z : Value) (size bytes : Nat)
  (ho : o.op = .call { callee := .builtin .append, args := #[s, x], argTypes := #[t, t] })
  (ht : P.underlying t = some (.slice e)) (hinfo : (P.info? e).map (fun i => (i.zero, i.size, i.bytes)) = some (some z, size, bytes)) (hz : z.cells.size = size) (hs0 : 0 < size) (hb0 : 0 < bytes)
  (v : Value) (n : Nat) (xs ys : List Value) (hs : a.eval s = v) (hx : a.eval x = .slice (some ⟨W.heap.size, 0, none⟩) 1 1) (hys : ys.length = size) (h1 : ∀ u ∈ ys, u.oneCell' = true)
  (HO : W.ownsRow base e size v n xs) (hbase : base ≤ W.heap.size) (hl : (n + 1) * bytes ≤ 140737488355328)
  (h : ∀ v1 w1, w1.ownsRow base e size v1 (n + 1) (xs ++ ys) → w1.ownsRow base e size v n xs → W.grownBy w1 v.ownBlock → (v1.ownBlock = v.ownBlock ∨ ∃ b, v1.ownBlock = some b ∧ W.heap.size ≤ b) → K (a.put o.dst v1) w1) :
  o.wp P a (W.alloc (.cells ys.toArray e)) K Q := by
 obtain ⟨i0, hi, hzz⟩ := Option.map_eq_some_iff.1 hinfo
 simp only [Prod.mk.injEq] at hzz
 obtain ⟨hz0, hz1, hz2⟩ := hzz
 have hlen : n + 1 ≤ 140737488355328 := Nat.le_trans (Nat.le_mul_of_pos_right _ hb0) hl
 obtain ⟨v1, w1, hr, h2, h3, h4, h5⟩ := run_append_kept (P := P) (W.alloc (.cells ys.toArray e)) base t o.type e i0 z size bytes ht hi hz0 hz1 hz2 hz hs0 v n xs (HO.alloc _) ⟨W.heap.size, 0, none⟩ 1 1 (by decide) ys (by rw [hys]; simp)
  (by simpa using World.news_of_block (cs := ys.toArray) (t := e) (fr := (0, 0)) (heap_alloc_new W (.cells ys.toArray e))) h1 (by simp only [maxLen]; omega) hl (by simp; omega)
 unfold Oper.wp execOp
 simp only [ho, resolve, invoke, builtin, Sem.run_bind, Sem.run_pure, Result.andThen_ok, List.map_toArray, List.map_cons, List.map_nil, hs, hx, hr]
 refine h v1 w1 h2 h3 (World.grownBy.trans (World.grownBy_alloc W _ _) h4) ?_
 rcases h5 with ⟨h5, _⟩ | h5
 ·exact .inl h5
 exact .inr ⟨_, h5, by simp⟩
variable {α : Type}
theorem R_append_kept (d : Kd α) {W : World} (base : Nat) (hgd : o.guard = none) (s x : Operand) (t e : TypeId) (z : Value) (bytes : Nat)
  (ho : o.op = .call { callee := .builtin .append, args := #[s, x], argTypes := #[t, t] })
  (ht : P.underlying t = some (.slice e)) (hinfo : (P.info? e).map (fun i => (i.zero, i.size, i.bytes)) = some (some z, d.sz, bytes)) (hz : z.cells.size = d.sz) (hs0 : 0 < d.sz) (hb0 : 0 < bytes)
  (v : Value) (xs : List α) (p : α) (cs : List Value) (ok okp : Nat → Prop) (hs : a.eval s = v) (hx : a.eval x = .slice (some ⟨W.heap.size, 0, none⟩) 1 1) (hp : d.M W base okp p cs) (hokp : ∀ k, okp k → ok k ∧ some k ≠ v.ownBlock) (hfresh : ∀ k, W.heap.size ≤ k → ok k)
  (HO : d.R e W base ok v xs) (hbase : base ≤ W.heap.size) (hl : (xs.length + 1) * bytes ≤ 140737488355328)
  (h : ∀ v1 w1, d.R e w1 base ok v1 (xs ++ [p]) → d.R e w1 base ok v xs → W.grownBy w1 v.ownBlock → (v1.ownBlock = v.ownBlock ∨ ∃ b, v1.ownBlock = some b ∧ W.heap.size ≤ b) → wpList P ops Q rest (a.put o.dst v1) w1) :
  wpList P ops Q (o :: rest) a (W.alloc (.cells cs.toArray e)) := by
 obtain ⟨h0, inner, hown, hr⟩ := HO
 refine wpList_plain hgd fun K hK => ?_
 refine wp_append_kept base s x t e z d.sz bytes ho ht hinfo hz hs0 hb0 v xs.length inner cs hs hx (d.K_len (d.K_of_M hp)) (d.K_one (d.K_of_M hp)) hown hbase hl ?_
 intro v1 w1 hown1 hkeep hg1 hat1
 exact hK _ _ (h v1 w1 (Kd.R_appended h0 hr hp hokp hfresh hown1 hg1 hat1) ⟨h0, inner, hkeep, hr.imp_ (fun _ _ hm => Kd.M_grown hm hg1 (fun k hk => hk.2))⟩ hg1 hat1)
end
section
variable {α : Type} {d : Kd α} {e : Nat} {w w1 : World} {base base2 : Nat} {ok ok2 : Nat → Prop} {v x : Value} {ys zs : List α}
theorem R_cap {g n n2 c c2 : Nat} (hs : 0 < d.sz) (h : d.R e w base ok (.slice (some ⟨g, 0, none⟩) n c) ys) (h2 : d.R e w base2 ok2 (.slice (some ⟨g, 0, none⟩) n2 c2) zs) : c = c2 := by
 obtain ⟨_, i1, o1, _⟩ := h
 obtain ⟨_, i2, o2, _⟩ := h2
 rcases o1.2 with ⟨e1, _⟩ | ⟨g1, cap1, cur1, e1, _, hh1, _, _, hc1, _⟩
 ·cases e1
 rcases o2.2 with ⟨e2, _⟩ | ⟨g2, cap2, cur2, e2, _, hh2, _, _, hc2, _⟩
 ·cases e2
 cases e1
 cases e2
 rw [hh1] at hh2
 cases hh2
 rw [hc1] at hc2
 exact Nat.eq_of_mul_eq_mul_right hs hc2
theorem row_share (hs : 0 < d.sz) (hE : d.E = []) (hv : d.R e w base ok v ys) (hx : d.R e w base2 ok2 x (ys ++ zs)) (hx1 : d.R e w1 base2 ok2 x (ys ++ zs)) (hb : base2 = base) (hg : w.grownBy w1 x.ownBlock) : d.R e w1 base ok v ys := by
 subst hb
 by_cases hq : v.ownBlock = x.ownBlock
 ·cases hvb : v.ownBlock with
  | none =>
   have hvn : v = .slice none 0 0 ∧ ys = [] := by
    obtain ⟨_, i1, o1, r1⟩ := hv
    rcases o1.2 with ⟨e1, h0⟩ | ⟨g1, cap1, cur1, e1, _⟩
    ·exact ⟨e1, List.eq_nil_of_length_eq_zero h0⟩
    rw [e1] at hvb
    simp [Value.ownBlock] at hvb
   rw [hvn.1, hvn.2]
   exact Kd.R_nil _ _ _ _ _
  | some g =>
   rw [hvb] at hq
   obtain ⟨Av, cv, ev⟩ := Kd.R_slice hv
   obtain ⟨Ax, cx, ex⟩ := Kd.R_slice hx
   subst ev
   subst ex
   cases Av with
   | none => simp [Value.ownBlock] at hvb
   | some av =>
    cases Ax with
    | none => simp [Value.ownBlock] at hq
    | some ax =>
     obtain ⟨gv, rfl⟩ := Kd.R_head hv
     obtain ⟨gx, rfl⟩ := Kd.R_head hx
     have e1 : gv = g := by simpa [Value.ownBlock] using hvb
     have e2 : g = gx := by simpa [Value.ownBlock] using hq
     subst e1
     subst e2
     obtain rfl := R_cap hs hv hx
     have ht := Kd.R_take (m := ys.length) hx1 (by rw [List.length_append]; omega)
     rw [List.take_left] at ht
     exact Kd.R_reok hE ht hv.1
 refine Kd.R_mono (Kd.R_grown (Kd.R_tight2 hE hv) hg (fun k hk e => hq ?_)) (fun k hk => hk.2)
 rw [← hk.1, e]
end
structure Fam {α : Type} (d : Kd α) (e : Nat) (w : World) (base : Nat) (P : Nat → Prop) (f : Nat → Nat) (vs : List Value) (ys : List (List α)) : Prop where
 len : vs.length = ys.length
 row : ∀ j, j < ys.length → d.R e w base (fun k => f k = j ∧ P k) (vs.getD j undef) (ys.getD j [])
section
variable {α : Type} {d : Kd α} {e : Nat} {w w1 : World} {base : Nat} {P P' : Nat → Prop} {f f' : Nat → Nat} {vs us : List Value} {ys zs : List (List α)}
theorem Fam.nil (d : Kd α) (e : Nat) (w : World) (base : Nat) (P : Nat → Prop) (f : Nat → Nat) : Fam d e w base P f [] [] := ⟨rfl, fun j hj => absurd hj (Nat.not_lt_zero j)⟩
theorem Fam.chg {S : Nat → Prop} (h : Fam d e w base P f vs ys) (hc : Chg S w w1) (hs : ∀ k, P k → f k < ys.length → ¬ S k) : Fam d e w1 base P f vs ys :=
 ⟨h.len, fun j hj => R_chg (h.row j hj) hc (fun k hk => hs k hk.2 (hk.1 ▸ hj))⟩
theorem Fam.below (h : Fam d e w base P f vs ys) (hb : Below w.heap.size w w1) : Fam d e w1 base P f vs ys := ⟨h.len, fun j hj => Kd.R_below (h.row j hj) hb⟩
theorem Fam.over {row : Option Nat} {e' : Nat} (h : Fam d e w base P f vs ys) (hg : w.grownBy w1 row) (hty : ∀ k, row = some k → ∃ cells, w.heap[k]? = some (.cells cells e' (0, 0))) (ht : ∀ q, q ∈ e :: d.E → q ≠ e') : Fam d e w1 base P f vs ys :=
 ⟨h.len, fun j hj => Kd.R_mono (Kd.R_move (Kd.R_bound (h.row j hj)) (fun k hk => hg.block k hk.2.2.1 (fun he => by
  obtain ⟨_, _, _, q, hq, cells, hc⟩ := hk
  obtain ⟨cells', hc'⟩ := hty k he.symm
  rw [hc] at hc'
  cases hc'
  exact ht _ hq rfl))) (fun _ hk => hk.1)⟩
theorem Fam.ext (h : Fam d e w base P f vs ys) (hf : ∀ k, k < w.heap.size → f' k = f k) : Fam d e w base P f' vs ys :=
 ⟨h.len, fun j hj => Kd.R_mono (Kd.R_bound (h.row j hj)) (fun k hk => ⟨by rw [hf k hk.2.2.1]; exact hk.1.1, hk.1.2⟩)⟩
theorem Fam.mono (h : Fam d e w base P f vs ys) (hp : ∀ k, P k → P' k) : Fam d e w base P' f vs ys := ⟨h.len, fun j hj => Kd.R_mono (h.row j hj) (fun k hk => ⟨hk.1, hp k hk.2⟩)⟩
theorem Fam.bound (h : Fam d e w base P f vs ys) : Fam d e w base (fun k => P k ∧ base ≤ k ∧ k < w.heap.size) f vs ys := ⟨h.len, fun j hj => Kd.R_mono (Kd.R_bound (h.row j hj)) (fun k hk => ⟨hk.1.1, hk.1.2, hk.2.1, hk.2.2.1⟩)⟩
theorem getD_set_ne' {β : Type} {l : List β} {i j : Nat} {v z : β} (h : i ≠ j) : (l.set i v).getD j z = l.getD j z := by
 rw [List.getD_eq_getElem?_getD, List.getD_eq_getElem?_getD, List.getElem?_set_ne h]
theorem getD_set_eq' {β : Type} {l : List β} {i : Nat} {v z : β} (h : i < l.length) : (l.set i v).getD i z = v := by
 rw [List.getD_eq_getElem?_getD, List.getElem?_set_self h]
 rfl
theorem Fam.put {S : Nat → Prop} (h : Fam d e w base P f vs ys) {i : Nat} (hi : i < ys.length) (hc : Chg S w w1) (hs : ∀ k, P k → S k → f k = i) {y : List α} (hr : d.R e w1 base (fun k => f k = i ∧ P k) (vs.getD i undef) y) : Fam d e w1 base P f vs (ys.set i y) := by
 refine ⟨by rw [List.length_set]; exact h.len, fun j hj => ?_⟩
 rw [List.length_set] at hj
 by_cases hij : i = j
 ·subst hij
  rw [getD_set_eq' hi]
  exact hr
 rw [getD_set_ne' hij]
 exact R_chg (h.row j hj) hc (fun k hk hn => hij ((hs k hk.2 hn).symm.trans hk.1))
theorem Fam.keep {S : Nat → Prop} (h : Fam d e w base P f vs ys) {i : Nat} (hc : Chg S w w1) (hs : ∀ k, P k → S k → f k = i) (hr : i < ys.length → d.R e w1 base (fun k => f k = i ∧ P k) (vs.getD i undef) (ys.getD i [])) : Fam d e w1 base P f vs ys := by
 refine ⟨h.len, fun j hj => ?_⟩
 by_cases hij : i = j
 ·subst hij
  exact hr hj
 exact R_chg (h.row j hj) hc (fun k hk hn => hij ((hs k hk.2 hn).symm.trans hk.1))
theorem getD_snoc_lt {β : Type} {l : List β} {x z : β} {j : Nat} (h : j < l.length) : (l ++ [x]).getD j z = l.getD j z := by
 rw [List.getD_eq_getElem?_getD, List.getD_eq_getElem?_getD, List.getElem?_append_left h]
theorem getD_snoc_eq {β : Type} {l : List β} {x z : β} : (l ++ [x]).getD l.length z = x := by
 rw [List.getD_eq_getElem?_getD, List.getElem?_append_right (Nat.le_refl _), Nat.sub_self]
 rfl
theorem Fam.snoc (h : Fam d e w base P f vs ys) {v : Value} {y : List α} (hr : d.R e w base (fun k => f k = ys.length ∧ P k) v y) : Fam d e w base P f (vs ++ [v]) (ys ++ [y]) := by
 refine ⟨by rw [List.length_append, List.length_append, h.len]; rfl, fun j hj => ?_⟩
 rw [List.length_append, List.length_singleton] at hj
 by_cases hjl : j < ys.length
 ·rw [getD_snoc_lt (by rw [h.len]; exact hjl), getD_snoc_lt hjl]
  exact h.row j hjl
 obtain rfl : j = ys.length := by omega
 rw [getD_snoc_eq]
 have e1 : (vs ++ [v]).getD ys.length undef = v := by rw [← h.len]; exact getD_snoc_eq
 rw [e1]
 exact hr
theorem S_fam {e0 : Nat} {ok : Nat → Prop} {v : Value} {xs : List (List α)} (h : Kd.S (Kd.slice e0 d) e w base ok v xs) : ∃ f us, w.ownsRow base e 1 v us.length us ∧ Fam d e0 w base ok f us xs := by
 obtain ⟨f, h0, inner, ho, hr⟩ := h
 have hl : inner.length = xs.length := by have := hr.1; rw [List.length_zipIdx] at this; exact this.trans (Nat.mul_one _)
 rw [List.length_zipIdx] at ho
 refine ⟨f, inner, by rw [hl]; exact ho, hl, fun j hj => ?_⟩
 have hz : xs.zipIdx[j]? = some (xs[j], j) := Kd.zip_at (List.getElem?_eq_getElem hj)
 have hm := hr.2 j _ hz
 have hs1 : (Kd.tag f (Kd.slice e0 d)).sz = 1 := rfl
 rw [hs1, Nat.mul_one] at hm
 obtain ⟨v', hv', hR⟩ := hm
 have hvj : inner.getD j undef = v' := by
  have h2 : ((inner.drop j).take 1)[0]? = some v' := by rw [hv']; rfl
  rw [List.getElem?_take_of_lt (by decide), List.getElem?_drop, Nat.add_zero] at h2
  rw [List.getD_eq_getElem?_getD, h2]
  rfl
 rw [hvj, List.getD_eq_getElem?_getD, List.getElem?_eq_getElem hj]
 exact Kd.R_mono hR (fun k hk => ⟨hk.2, hk.1.1⟩)
theorem outer_cell {g n c i : Nat} (h : w.ownsRow base e 1 (.slice (some ⟨g, 0, none⟩) n c) us.length us) (hi : i < us.length) : w.cell? ⟨g, i, none⟩ = some (us.getD i undef) := by
 have := h.cells (g := g) rfl i (us.getD i undef) (by rw [List.getD_eq_getElem?_getD, List.getElem?_eq_getElem hi]; rfl)
 rwa [add_plain] at this
end
def TY (w : World) (base e k : Nat) : Prop := base ≤ k ∧ ∃ cells, w.heap[k]? = some (.cells cells e (0, 0))
theorem Chg.tgrown {w wr w1 : World} {base e : Nat} {row : Option Nat} (h : Chg (TY w base e) w wr) (hg : wr.grownBy w1 row) (hr : ∀ k, row = some k → base ≤ k ∧ ∃ cells, wr.heap[k]? = some (.cells cells e (0, 0))) : Chg (TY w base e) w w1 :=
 ⟨hg.os.trans h.os, hg.tape.trans h.tape, hg.output.trans h.output, Nat.le_trans h.size hg.size, fun k hk hn => by
  have e1 := h.block k hk hn
  refine (hg.block k (Nat.lt_of_lt_of_le hk h.size) (fun he => hn ?_)).trans e1
  obtain ⟨h1, cells, h2⟩ := hr k he.symm
  exact ⟨h1, cells, e1 ▸ h2⟩⟩
theorem Chg.newgrown {S : Nat → Prop} {w wr w1 : World} {row : Option Nat} (h : Chg S w wr) (hg : wr.grownBy w1 row) (hr : ∀ k, row = some k → w.heap.size ≤ k) : Chg S w w1 :=
 ⟨hg.os.trans h.os, hg.tape.trans h.tape, hg.output.trans h.output, Nat.le_trans h.size hg.size, fun k hk hn => (hg.block k (Nat.lt_of_lt_of_le hk h.size) (fun he => by have := hr k he.symm; omega)).trans (h.block k hk hn)⟩
theorem outer_chg {w wr : World} {base e e' g n c i : Nat} {us : List Value} (h : w.ownsRow base e' 1 (.slice (some ⟨g, 0, none⟩) n c) us.length us) (hc : Chg (TY w base e) w wr) (hne : e' ≠ e) (hi : i < us.length) : wr.cell? ⟨g, i, none⟩ = some (us.getD i undef) := by
 obtain ⟨cells, hb⟩ := own_typed h g rfl
 have e1 := hc.block g (blk_lt hb) (by
  rintro ⟨_, cs, h2⟩
  rw [hb] at h2
  cases h2
  exact hne rfl)
 exact (World.cell?_of_block (a := ⟨g, i, none⟩) e1).trans (outer_cell h hi)
theorem own_over {w w1 : World} {base e e' n size : Nat} {v : Value} {cs : List Value} {row : Option Nat} (h : w.ownsRow base e size v n cs) (hg : w.grownBy w1 row) (hty : ∀ k, row = some k → ∃ cells, w.heap[k]? = some (.cells cells e' (0, 0))) (ht : e ≠ e') : w1.ownsRow base e size v n cs :=
 own_move h (fun k hk => hg.block k (own_lt h k hk) (fun he => by
  obtain ⟨c1, h1⟩ := own_typed h k hk
  obtain ⟨c2, h2⟩ := hty k he.symm
  rw [h1] at h2
  cases h2
  exact ht rfl))
theorem R_over3 {α : Type} {d : Kd α} {w w1 : World} {base e e' : Nat} {ok : Nat → Prop} {v : Value} {xs : List α} {row : Option Nat} (h : d.R e w base ok v xs) (hg : w.grownBy w1 row) (hty : ∀ k, row = some k → ∃ cells, w.heap[k]? = some (.cells cells e' (0, 0))) (ht : ∀ q, q ∈ e :: d.E → q ≠ e') : d.R e w1 base ok v xs :=
 Kd.R_mono (Kd.R_move (Kd.R_bound h) (fun k hk => hg.block k hk.2.2.1 (fun he => by
  obtain ⟨_, _, _, q, hq, cells, hc⟩ := hk
  obtain ⟨cells', hc'⟩ := hty k he.symm
  rw [hc] at hc'
  cases hc'
  exact ht _ hq rfl))) (fun _ hk => hk.1)
section
variable {α : Type} (μ ν : Nat → α)
def mk1 (xs : List (List α)) (i : Nat) : List (List α) := xs.mapIdx fun j x => if j < i then List.replicate x.length (μ j) else x
theorem mk1_length (xs : List (List α)) (i : Nat) : (mk1 μ xs i).length = xs.length := by simp [mk1]
theorem mk1_zero (xs : List (List α)) : mk1 μ xs 0 = xs := by
 apply List.ext_getElem?
 intro j
 simp [mk1, List.getElem?_mapIdx]
theorem mk1_at {xs : List (List α)} {i j : Nat} (hj : j < xs.length) : (mk1 μ xs i).getD j [] = if j < i then List.replicate (xs.getD j []).length (μ j) else xs.getD j [] := by
 rw [List.getD_eq_getElem?_getD, mk1, List.getElem?_mapIdx, List.getD_eq_getElem?_getD, List.getElem?_eq_getElem hj]
 rfl
def mk2 (xs : List (List α)) (i k : Nat) : List (List α) := (mk1 μ xs i).set i (List.replicate k (μ i) ++ (xs.getD i []).drop k)
theorem mk2_length (xs : List (List α)) (i k : Nat) : (mk2 μ xs i k).length = xs.length := by simp [mk2, mk1_length]
theorem mk2_zero {xs : List (List α)} {i : Nat} (hi : i < xs.length) : mk2 μ xs i 0 = mk1 μ xs i := by
 unfold mk2
 rw [List.replicate_zero, List.nil_append, List.drop_zero]
 apply List.ext_getElem?
 intro j
 by_cases hij : i = j
 ·subst hij
  rw [List.getElem?_set_self (by rw [mk1_length]; exact hi), mk1, List.getElem?_mapIdx, List.getElem?_eq_getElem hi]
  simp [List.getD_eq_getElem?_getD, List.getElem?_eq_getElem hi]
 rw [List.getElem?_set_ne hij]
theorem mk2_full {xs : List (List α)} {i : Nat} (hi : i < xs.length) : mk2 μ xs i (xs.getD i []).length = mk1 μ xs (i + 1) := by
 unfold mk2
 rw [List.drop_length, List.append_nil]
 apply List.ext_getElem?
 intro j
 by_cases hij : i = j
 ·subst hij
  rw [List.getElem?_set_self (by rw [mk1_length]; exact hi), mk1, List.getElem?_mapIdx, List.getElem?_eq_getElem hi]
  simp [List.getD_eq_getElem?_getD, List.getElem?_eq_getElem hi]
 rw [List.getElem?_set_ne hij, mk1, mk1, List.getElem?_mapIdx, List.getElem?_mapIdx]
 congr 1
 funext x
 by_cases h : j < i
 ·rw [if_pos h, if_pos (by omega)]
 rw [if_neg h, if_neg (by omega)]
theorem mk2_at {xs : List (List α)} {i k : Nat} (hi : i < xs.length) : (mk2 μ xs i k).getD i [] = List.replicate k (μ i) ++ (xs.getD i []).drop k := getD_set_eq' (by rw [mk1_length]; exact hi)
theorem mk2_succ {xs : List (List α)} {i k : Nat} (hi : i < xs.length) (hk : k < (xs.getD i []).length) : (mk2 μ xs i k).set i ((List.replicate k (μ i) ++ (xs.getD i []).drop k).set k (μ i)) = mk2 μ xs i (k + 1) := by
 unfold mk2
 rw [List.set_set]
 congr 1
 rw [List.set_append_right _ _ (by simp), List.length_replicate, Nat.sub_self, List.drop_eq_getElem_cons hk, List.set_cons_zero, List.replicate_succ', List.append_assoc]
 rfl
def mk3 (xs : List (List α)) (i : Nat) : List (List α) := (List.range i).map fun j => List.replicate (xs.getD j []).length (μ j) ++ List.replicate 30 (ν j)
theorem mk3_length (xs : List (List α)) (i : Nat) : (mk3 μ ν xs i).length = i := by simp [mk3]
theorem mk3_succ (xs : List (List α)) (i : Nat) : mk3 μ ν xs (i + 1) = mk3 μ ν xs i ++ [List.replicate (xs.getD i []).length (μ i) ++ List.replicate 30 (ν i)] := by
 unfold mk3
 rw [List.range_succ, List.map_append]
 rfl
theorem mk3_at {xs : List (List α)} {i j : Nat} (hj : j < i) : (mk3 μ ν xs i).getD j [] = List.replicate (xs.getD j []).length (μ j) ++ List.replicate 30 (ν j) := by
 rw [List.getD_eq_getElem?_getD, mk3, List.getElem?_map, List.getElem?_range hj]
 rfl
end
end Go.Proofs.YtbhpjpeknooppaaDoor.M
namespace Go.Proofs.YtbhpjpeknooppaaDoor.M
open Go.RowKit Go.Proofs.YtbhpjpeknooppaaDoorW.PrintWords Go.Proofs.YtbhpjpeknooppaaDoorW.PrintLast Go.Proofs.YtbhpjpeknooppaaDoorW.PrintMore
open Go.Proofs.YtbhpjpeknooppaaDoor.PCodeSpares
set_option linter.unusedVariables false
section
variable {P : Program} {ops : Array Oper} {rest : List Oper} {o : Oper} {a : Act} {Q : Exit → Act → World → Prop}
theorem append_all {W : World} (base : Nat) (hgd : o.guard = none) (s x : Operand) (t e : TypeId) (z : Value) (bytes : Nat)
  (ho : o.op = .call { callee := .builtin .append, args := #[s, x], argTypes := #[t, t] })
  (ht : P.underlying t = some (.slice e)) (hinfo : (P.info? e).map (fun i => (i.zero, i.size, i.bytes)) = some (some z, 1, bytes)) (hz : z.cells.size = 1) (hb0 : 0 < bytes)
  (v x' : Value) (xs ys : List Value) (b2 : Nat) (hs : a.eval s = v) (hx : a.eval x = x') (h1 : ∀ u ∈ ys, u.oneCell' = true)
  (HO : W.ownsRow base e 1 v xs.length xs) (HR : W.ownsRow b2 e 1 x' ys.length ys) (hbase : base ≤ W.heap.size) (hl : (xs.length + ys.length) * bytes ≤ 140737488355328)
  (h : ∀ v1 w1, w1.ownsRow base e 1 v1 (xs ++ ys).length (xs ++ ys) → W.grownBy w1 v.ownBlock → (v1.ownBlock = v.ownBlock ∨ ∃ b, v1.ownBlock = some b ∧ W.heap.size ≤ b) → wpList P ops Q rest (a.put o.dst v1) w1) :
  wpList P ops Q (o :: rest) a W := by
 obtain ⟨i0, hi, hzz⟩ := Option.map_eq_some_iff.1 hinfo
 simp only [Prod.mk.injEq] at hzz
 obtain ⟨hz0, hz1, hz2⟩ := hzz
 have hlen : xs.length + ys.length ≤ 140737488355328 := Nat.le_trans (Nat.le_mul_of_pos_right _ hb0) hl
 have hrun : ∃ v1 w1, (Builtin.append_ #[t, t] o.type #[v, x']).run P W = .ok v1 w1 ∧ w1.ownsRow base e 1 v1 (xs ++ ys).length (xs ++ ys) ∧ W.grownBy w1 v.ownBlock ∧ (v1.ownBlock = v.ownBlock ∨ v1.ownBlock = some W.heap.size) := by
  rcases HR.2 with ⟨rfl, h0⟩ | ⟨g, cap, cur, rfl, hbg, hg, hnc, hcm, hcs, htake⟩
  ·obtain rfl : ys = [] := List.eq_nil_of_length_eq_zero h0
   refine ⟨v, W, ?_, by simpa using HO, World.grownBy.refl W _, .inl rfl⟩
   rcases HO.2 with ⟨rfl, hn⟩ | ⟨g, cap, cur, rfl, _, _, hnc, _⟩
   ·simp [Builtin.append_, run_underlying ht, sizeOf, typeInfo, hi, Builtin.lenOf, Builtin.firstCells]
   simp [Builtin.append_, run_underlying ht, sizeOf, typeInfo, hi, Builtin.lenOf, Builtin.firstCells, hnc, storeCells]
  obtain ⟨v1, w1, hr, h2, h3, _, h5⟩ := run_append_own_at (P := P) W base t o.type e i0 z 1 bytes ht hi hz0 hz1 hz2 hz (by omega) v xs.length xs HO ⟨g, 0, none⟩ ys.length cap ys (by simp) (HR.cells (g := g) rfl)
   h1 (by simp only [maxLen]; omega) hl hbase
  exact ⟨v1, w1, hr, by rw [List.length_append]; exact h2, h3, h5⟩
 obtain ⟨v1, w1, hr, hown, hg, hat⟩ := hrun
 refine wpList_plain hgd fun K hK => ?_
 unfold Oper.wp execOp
 simp only [ho, resolve, invoke, builtin, Sem.run_bind, Sem.run_pure, Result.andThen_ok, List.map_toArray, List.map_cons, List.map_nil, hs, hx, hr]
 refine hK _ _ (h v1 w1 hown hg ?_)
 rcases hat with hat | hat
 ·exact .inl hat
 exact .inr ⟨_, hat, Nat.le_refl _⟩
end
section
variable {α : Type} {d : Kd α} {e : Nat} {w w1 : World} {base b2 : Nat} {P : Nat → Prop} {f g : Nat → Nat} {vs us : List Value} {ys zs : List (List α)}
theorem getD_lt_left {β : Type} {l r : List β} {z : β} {j : Nat} (h : j < l.length) : (l ++ r).getD j z = l.getD j z := by
 rw [List.getD_eq_getElem?_getD, List.getD_eq_getElem?_getD, List.getElem?_append_left h]
theorem getD_ge_right {β : Type} {l r : List β} {z : β} {j : Nat} (h : l.length ≤ j) : (l ++ r).getD j z = r.getD (j - l.length) z := by
 rw [List.getD_eq_getElem?_getD, List.getD_eq_getElem?_getD, List.getElem?_append_right h]
theorem Fam.cat {m : Nat} (h : Fam d e w base (fun k => k < m) f vs ys) (h2 : Fam d e w base (fun k => m ≤ k) g us zs) : Fam d e w base (fun _ => True) (fun k => if k < m then f k else ys.length + g k) (vs ++ us) (ys ++ zs) := by
 refine ⟨by rw [List.length_append, List.length_append, h.len, h2.len], fun j hj => ?_⟩
 rw [List.length_append] at hj
 by_cases hl : j < ys.length
 ·rw [getD_lt_left (by rw [h.len]; exact hl), getD_lt_left hl]
  exact Kd.R_mono (h.row j hl) (fun k hk => ⟨by rw [if_pos hk.2]; exact hk.1, trivial⟩)
 rw [getD_ge_right (by rw [h.len]; omega), getD_ge_right (by omega), h.len]
 exact Kd.R_mono (h2.row (j - ys.length) (by omega)) (fun k hk => ⟨by rw [if_neg (by have := hk.2; omega), hk.1]; omega, trivial⟩)
theorem Fam.low (h : Fam d e w base P f vs ys) : Fam d e w base (fun k => k < w.heap.size) f vs ys := h.bound.mono (fun _ hk => hk.2.2)
theorem Fam.tychg {e' : Nat} {b' : Nat} (h : Fam d e w base P f vs ys) (hc : Chg (TY w b' e') w w1) (ht : ∀ q, q ∈ e :: d.E → q ≠ e') : Fam d e w1 base P f vs ys :=
 ⟨h.len, fun j hj => Kd.R_mono (R_chg (S := TY w b' e') (Kd.R_bound (h.row j hj)) hc (fun k hk hn => by
  obtain ⟨_, _, _, q, hq, cells, hq1⟩ := hk
  obtain ⟨_, cs, h2⟩ := hn
  rw [hq1] at h2
  cases h2
  exact ht _ hq rfl)) (fun _ hk => hk.1)⟩
theorem own_tychg {e' b' n size : Nat} {v : Value} {cs : List Value} (h : w.ownsRow base e size v n cs) (hc : Chg (TY w b' e') w w1) (ht : e ≠ e') : w1.ownsRow base e size v n cs :=
 own_move h (fun k hk => hc.block k (own_lt h k hk) (fun hn => by
  obtain ⟨c1, h1⟩ := own_typed h k hk
  obtain ⟨_, c2, h2⟩ := hn
  rw [h1] at h2
  cases h2
  exact ht rfl))
theorem Chg.ty {S : Nat → Prop} {w0 : World} {b' e' : Nat} (h : Chg S w0 w) (hc : Chg (TY w b' e') w w1) (hb : w0.heap.size ≤ b') : Chg S w0 w1 :=
 ⟨hc.os.trans h.os, hc.tape.trans h.tape, hc.output.trans h.output, Nat.le_trans h.size hc.size, fun k hk hn => (hc.block k (Nat.lt_of_lt_of_le hk h.size) (fun ht => by have := ht.1; omega)).trans (h.block k hk hn)⟩
theorem fam_C {v : Value} {e0 : Nat} (ho : w.ownsRow base e 1 v vs.length vs) (hf : Fam d e0 w b2 P f vs ys) : ∃ A c, v = .slice A ys.length c ∧ ys.length ≤ c ∧ (Kd.slice e0 d).C w A ys.length ys := by
 obtain ⟨A, c, rfl⟩ := own_slice ho
 have hl := hf.len
 have hc := own_cap ho
 refine ⟨A, c, by rw [hl], by rw [← hl]; exact hc, rfl, ?_, fun hp => ?_⟩
 ·rcases ho.2 with ⟨_, h0⟩ | ⟨g, cap, cur, _, _, _, hnc, hcm, _⟩
  ·omega
  simp only [maxLen] at hcm
  omega
 rcases ho.2 with ⟨e1, h0⟩ | ⟨g, cap, cur, e1, _, hg, hnc, hcm, _⟩
 ·omega
 injection e1 with e1 _ _
 subst e1
 refine ⟨⟨g, 0, none⟩, rfl, fun j p hj => ?_⟩
 have hjl : j < ys.length := (List.getElem?_eq_some_iff.1 hj).1
 have hr := hf.row j hjl
 have hp' : ys.getD j [] = p := by rw [List.getD_eq_getElem?_getD, hj]; rfl
 rw [hp'] at hr
 obtain ⟨Aj, cj, hv, hlc, hC⟩ := Kd.R_reads hr
 refine ⟨[vs.getD j undef], rfl, ⟨Aj, cj, by rw [hv], hlc, hC⟩, fun i u hu => ?_⟩
 match i, hu with
 | 0, hu =>
  cases hu
  have := outer_cell ho (i := j) (by rw [hl]; exact hjl)
  rw [show j * (Kd.slice e0 d).sz + 0 = j from Nat.mul_one j, add_plain]
  exact this
 | i + 1, hu => simp at hu
end
end Go.Proofs.YtbhpjpeknooppaaDoor.M
namespace Go.Proofs.YtbhpjpeknooppaaDoor.M
open Go.RowKit Go.Proofs.YtbhpjpeknooppaaDoorW.PrintWords Go.Proofs.YtbhpjpeknooppaaDoorW.PrintLast Go.Proofs.YtbhpjpeknooppaaDoorW.PrintMore
open Go.Proofs.YtbhpjpeknooppaaDoor.PCodeSpares
set_option linter.unusedVariables false
set_option linter.unusedSimpArgs false
def muC (i : Nat) : Int := 1000 + (i : Int)
def nuC (i : Nat) : Int := 500000 + (i : Int)
theorem repl_at2 {a b z : Int} {n m : Nat} {k : Nat} (h : n ≤ k) (h2 : k < n + m) : (List.replicate n a ++ List.replicate m b).getD k z = b := by
 rw [List.getD_eq_getElem?_getD, List.getElem?_append_right (by rw [List.length_replicate]; exact h), List.length_replicate, List.getElem?_replicate, if_pos (by omega)]
 rfl
def Rel1_cols (w : World) (base : Nat) (f : Nat → Nat) (us : List Value) (xs : List (List Int)) (v : Value) (w' : World) : Prop :=
 ∃ i : Nat, v = .int .i64 (i : Int) ∧ i ≤ xs.length ∧ Aside0 (Fam (Kd.int .i64) 3 w' base (fun _ => True) f us (mk1 muC xs i)) ∧ Aside0 (Chg (TY w base 3) w w')
def Rel2_cols (w : World) (base : Nat) (f : Nat → Nat) (us : List Value) (xs : List (List Int)) (i : Nat) (v : Value) (w' : World) : Prop :=
 ∃ k : Nat, v = .int .i64 (k : Int) ∧ k ≤ (xs.getD i []).length ∧ Aside0 (Fam (Kd.int .i64) 3 w' base (fun _ => True) f us (mk2 muC xs i k)) ∧ Aside0 (Chg (TY w base 3) w w')
def Rel3_cols (w : World) (base : Nat) (us : List Value) (xs : List (List Int)) (vl v : Value) (w' : World) : Prop :=
 ∃ (i : Nat) (f : Nat → Nat) (lg : List Value), v = .int .i64 (i : Int) ∧ i ≤ xs.length ∧ Aside0 (w'.ownsRow w.heap.size 48 1 vl lg.length lg) ∧ Aside0 (Fam (Kd.int .i64) 3 w' base (fun _ => True) f us (mk1 muC xs xs.length)) ∧ Aside0 (Fam (Kd.int .i64) 3 w' base (fun _ => True) f lg (mk3 muC nuC xs i)) ∧ Aside0 (Chg (TY w base 3) w w')
def Rel4_cols (w wo : World) (base : Nat) (us : List Value) (xs : List (List Int)) (i : Nat) (f : Nat → Nat) (vl : Value) (lg : List Value) (x v : Value) (w' : World) : Prop :=
 ∃ k : Nat, v = .int .i64 (k : Int) ∧ k ≤ 30 ∧ Aside0 ((Kd.int .i64).R 3 w' base (fun q => f q = i ∧ True) x (List.replicate (xs.getD i []).length (muC i) ++ List.replicate k (nuC i))) ∧ Aside0 (w'.ownsRow w.heap.size 48 1 vl lg.length lg) ∧ Aside0 (Fam (Kd.int .i64) 3 w' base (fun _ => True) f us (mk1 muC xs xs.length)) ∧ Aside0 (Fam (Kd.int .i64) 3 w' base (fun _ => True) f lg (mk3 muC nuC xs i)) ∧ Aside0 (Chg (TY w base 3) w w') ∧ Aside0 (wo.heap.size ≤ w'.heap.size)
def Rel5_cols (w5 : World) (n : Nat) (v : Value) (w' : World) : Prop := ∃ i : Nat, v = .int .i64 (i : Int) ∧ i ≤ n ∧ Aside0 (Below w5.heap.size w5 w')
theorem rowlen_ {m : Int} {k : Nat} {r : List Int} (h : k ≤ r.length) : (List.replicate k m ++ r.drop k).length = r.length := by
 rw [List.length_append, List.length_replicate, List.length_drop]
 omega
theorem repl_at {a z : Int} {n : Nat} {l : List Int} {k : Nat} (h : k < n) : (List.replicate n a ++ l).getD k z = a := by
 rw [List.getD_eq_getElem?_getD, List.getElem?_append_left (by rw [List.length_replicate]; exact h), List.getElem?_replicate, if_pos h]
 rfl
set_option maxHeartbeats 8000000 in
set_option maxRecDepth 100000 in
theorem cols_apart (w : World) (base : Nat) (f : Nat → Nat) (vl : Value) (us : List Value) (xs : List (List Int)) (ho : w.ownsRow base 48 1 vl us.length us) (hf : Fam (Kd.int .i64) 3 w base (fun _ => True) f us xs) (hbase : base ≤ w.heap.size) (hn : xs.length ≤ 5864062014805) (hm : ∀ x ∈ xs, (x.length + 30) * 8 ≤ 140737488355328) :
  Calls Tryd.prog 12 #[vl] w fun e w' => e = .returned (.bool true) ∧ Chg (TY w base 3) w w' := by
 obtain ⟨A, cA, rfl⟩ := own_slice ho
 have hlen := hf.len
 have HOW := am ho
 rw [hlen]
 have HF := am hf
 have HLN := am hlen
 have HB := am hbase
 have HN := am hn
 have HM := am (show ∀ i, i < xs.length → ((xs.getD i []).length + 30) * 8 ≤ 140737488355328 from fun i hi => hm _ (by rw [List.getD_eq_getElem?_getD, List.getElem?_eq_getElem hi]; exact List.getElem_mem hi))
 have HUV := am (show ∀ i, i < xs.length → ∃ Ai ci, us.getD i undef = .slice Ai (xs.getD i []).length ci from fun i hi => Kd.R_slice (hf.row i hi))
 have HAD := am (show 0 < xs.length → ∃ gl, A = some ⟨gl, 0, none⟩ from fun hp => by
  rcases ho.2 with ⟨e_, h0⟩ | ⟨g, cap, cur, e_, _⟩
  ·omega
  injection e_ with e1_ _ _
  exact ⟨g, e1_⟩)
 clear ho hf hbase hn hm hlen
 go_enter Tryd.func12, Tryd.ntmps12
 go_wp2
 go_loopw [3] (fun v w' => Rel1_cols w base f us xs v w') (fun v _ => xs.length - (intOf v).toNat)
 case atStart => exact ⟨0, rfl, Nat.zero_le _, ⟨by rw [mk1_zero]; exact HF.out⟩, ⟨Chg.refl _ _⟩⟩
 case round =>
  obtain ⟨i, rfl, hi, HFi, HCi⟩ := hrel
  have HI := am hi
  clear hi
  by_cases hlt : i < xs.length
  ·obtain ⟨gl, rfl⟩ := HAD.out (by omega)
   obtain ⟨Ai, ci, hui⟩ := HUV.out i hlt
   obtain ⟨r, hrr⟩ : ∃ r, r = xs.getD i [] := ⟨_, rfl⟩
   have HRW := am hrr
   rw [← hrr] at hui
   have HUI := am hui
   have HMR := am (show (r.length + 30) * 8 ≤ 140737488355328 from by rw [hrr]; exact HM.out i hlt)
   clear hui hrr
   have eI : wrap64 ((i : Int) + 1) = (i : Int) + 1 := IntWalk.wrap64_in _ (by have := HN.out; omega)
   have eM : wrap64 (1000 + (i : Int)) = 1000 + (i : Int) := IntWalk.wrap64_in _ (by have := HN.out; omega)
   have l0 : wr.cell? ⟨gl, i, none⟩ = some (.slice Ai r.length ci) := (outer_chg HOW.out HCi.out (by decide) (by rw [HLN.out]; exact hlt)).trans (congrArg some HUI.out)
   go_wp2
   clear l0
   obtain ⟨wo, hwo⟩ : ∃ wo : World, wo = wr := ⟨_, rfl⟩
   subst hwo
   go_loopw [4] (fun v w' => Rel2_cols w base f us xs i v w') (fun v _ => r.length - (intOf v).toNat)
   case atStart => exact ⟨0, rfl, Nat.zero_le _, ⟨by rw [mk2_zero _ hlt]; exact HFi.out⟩, HCi⟩
   case round =>
    clear HFi HCi
    obtain ⟨k, rfl, hk, HFk, HCk⟩ := hrel
    rw [← HRW.out] at hk
    have HK := am hk
    clear hk
    have l0 : wr.cell? ⟨gl, i, none⟩ = some (.slice Ai r.length ci) := (outer_chg HOW.out HCk.out (by decide) (by rw [HLN.out]; exact hlt)).trans (congrArg some HUI.out)
    by_cases hlk : k < r.length
    ·have eK : wrap64 ((k : Int) + 1) = (k : Int) + 1 := IntWalk.wrap64_in _ (by have := HMR.out; omega)
     have hro0 := HFk.out.row i (by rw [mk2_length]; exact hlt)
     rw [mk2_at _ hlt, ← HRW.out, HUI.out] at hro0
     obtain ⟨gi, cp, hgi, _⟩ := Kd.R_form hro0 (by rw [rowlen_ (Nat.le_of_lt hlk)]; omega)
     rw [rowlen_ (Nat.le_of_lt hlk)] at hgi
     injection hgi with hgi1 _ hgi3
     subst hgi1
     subst hgi3
     have HRO := am hro0
     have HLK := am hlk
     clear hro0
     go_wp2_with (first | ((with_reducible refine gate_store (t := 3) (p := 33) rfl ?_); (try rw [eM]); refine Kd.R_store (Kd.int .i64) (w0 := wr) base rfl rfl 3 _ _ rfl 3 (o' := k * 1) ((k : Nat) : Int) 0 (List.replicate k (muC i) ++ r.drop k) (muC i) (.int .i64 (1000 + (i : Int))) [.int .i64 (1000 + (i : Int))] [.int .i64 ((List.replicate k (muC i) ++ r.drop k).getD k 0)] (fun q => f q = i ∧ True) (fun _ => False) ?zza ?zzo rfl rfl ?zzt ?zz1 HRO.out ?zz0 ?zzi ?zzl ?zzc ?zzj ?zzm (fun _ h_ => h_.elim) (Below.refl _ _) ?_; (case zza => show Value.pointer _ = Value.pointer _; rw [Nat.mul_one]); (case zzo => rw [Int.toNat_natCast]; rfl); (case zzt => kernel_rfl); (case zz1 => intro q_ hq_; simp at hq_; rcases hq_ with rfl; rfl); (case zz0 => omega); (case zzi => have := HLK.out; omega); (case zzl => rfl); (case zzc => rw [Int.toNat_natCast]; intro j u hu; rw [show k * (Kd.int .i64).sz + j = k + j from by show k * 1 + j = k + j; omega]; exact int_row_at HRO.out k HLK.out j u hu); (case zzj => exact Nat.le_refl _); (case zzm => exact rfl); intro W1 ho_ hb_ hg_; rw [Int.toNat_natCast] at ho_; have HC1 := am (HCk.out.tgrown hg_ (fun q hq => by injection hq with hq; subst hq; exact ⟨Kd.R_base HRO.out _ rfl, Kd.R_typed HRO.out _ rfl⟩)); have HF1 := am (show Fam (Kd.int .i64) 3 W1 base (fun _ => True) f us (mk2 muC xs i (k + 1)) from by have h_ := HFk.out.put (i := i) (S := fun q => q = gi) (by rw [mk2_length]; exact hlt) (Chg.of_grown hg_ (fun q hq => by injection hq with hq; exact hq.symm)) (fun q _ hq => by subst hq; exact (HRO.out.1 _ rfl).1) (by rw [HUI.out]; exact ho_); rw [HRW.out, mk2_succ _ hlt (by rw [← HRW.out]; exact HLK.out)] at h_; exact h_); clear ho_ hb_ hg_ l0))
     go_roundw
     case rel => first
      | exact ⟨k + 1, by first | rfl | (rw [eK]; rfl), by rw [← HRW.out]; exact HLK.out, HF1, HC1⟩
      | (refine ⟨_, ?_, rfl⟩; exact ⟨k + 1, rfl, by rw [← HRW.out]; exact HLK.out, HF1, HC1⟩)
     case measure => first | exact mu2_ hlk (Int.lt_succ _) | exact mu2_ hlk (by rw [eK]; exact Int.lt_succ _)
    have hk := HK.out
    clear HK
    obtain rfl : k = r.length := by omega
    have HFn := am (show Fam (Kd.int .i64) 3 wr base (fun _ => True) f us (mk1 muC xs (i + 1)) from by have h_ := HFk.out; rw [HRW.out, mk2_full _ hlt] at h_; exact h_)
    clear hk hlk HFk
    have eD : decide ((r.length : Int) < (r.length : Int)) = false := decide_eq_false (by omega)
    go_wp2
    go_roundw
    case rel => first
     | exact ⟨i + 1, by first | rfl | (rw [eI]; rfl), hlt, HFn, HCk⟩
     | (refine ⟨_, _, ?_, rfl, rfl⟩; exact ⟨i + 1, rfl, hlt, HFn, HCk⟩)
    case measure => first | exact mu2_ hlt (Int.lt_succ _) | exact mu2_ hlt (by rw [eI]; exact Int.lt_succ _)
  have hi := HI.out
  clear HI
  obtain rfl : i = xs.length := by omega
  clear hi hlt
  have eD : decide ((xs.length : Int) < (xs.length : Int)) = false := decide_eq_false (by omega)
  go_wp2
  clear eD
  obtain ⟨w3, hw3⟩ : ∃ w3 : World, w3 = wr := ⟨_, rfl⟩
  subst hw3
  go_loopw [5, 6] (fun vl v w' => Rel3_cols w base us xs vl v w') (fun _ v _ => xs.length - (intOf v).toNat)
  case atStart => exact ⟨0, f, [], rfl, Nat.zero_le _, ⟨World.ownsRow_nil _ _ _ _⟩, HFi, ⟨Fam.nil _ _ _ _ _ _⟩, HCi⟩
  case round =>
   clear HFi HCi
   obtain ⟨i, f3, lg, rfl, hi, HLO, HFi, HFl, HCi⟩ := hrel
   have HI := am hi
   clear hi
   by_cases hlt : i < xs.length
   ·obtain ⟨gl, rfl⟩ := HAD.out (by omega)
    obtain ⟨Ai, ci, hui⟩ := HUV.out i hlt
    obtain ⟨r, hrr⟩ : ∃ r, r = xs.getD i [] := ⟨_, rfl⟩
    have HRW := am hrr
    rw [← hrr] at hui
    have HUI := am hui
    have HMR := am (show (r.length + 30) * 8 ≤ 140737488355328 from by rw [hrr]; exact HM.out i hlt)
    clear hui hrr
    have eI : wrap64 ((i : Int) + 1) = (i : Int) + 1 := IntWalk.wrap64_in _ (by have := HN.out; omega)
    have eM : wrap64 (500000 + (i : Int)) = 500000 + (i : Int) := IntWalk.wrap64_in _ (by have := HN.out; omega)
    have l0 : wr.cell? ⟨gl, i, none⟩ = some (.slice Ai r.length ci) := (outer_chg HOW.out HCi.out (by decide) (by rw [HLN.out]; exact hlt)).trans (congrArg some HUI.out)
    obtain ⟨f4, hf4⟩ : ∃ f4 : Nat → Nat, f4 = fun q => if q < wr.heap.size then f3 q else i := ⟨_, rfl⟩
    have HF4 := am (show ∀ q, wr.heap.size ≤ q → f4 q = i from fun q hq => by rw [hf4]; exact if_neg (by omega))
    have HX := am (show ∀ q, q < wr.heap.size → f4 q = f3 q from fun q hq => by rw [hf4]; exact if_pos hq)
    clear hf4
    have HFi4 := am (HFi.out.ext HX.out)
    have HFl4 := am (HFl.out.ext HX.out)
    clear HFi HFl HX
    have HR0 := am (show (Kd.int .i64).R 3 wr base (fun q => f4 q = i ∧ True) (.slice Ai r.length ci) (List.replicate r.length (muC i) ++ List.replicate 0 (nuC i)) from by have h_ := HFi4.out.row i (by rw [mk1_length]; exact hlt); rw [mk1_at _ hlt, if_pos hlt, HUI.out, ← HRW.out] at h_; rw [List.replicate_zero, List.append_nil]; exact h_)
    go_wp2
    clear l0
    obtain ⟨wo, hwo⟩ : ∃ wo : World, wo = wr := ⟨_, rfl⟩
    subst hwo
    go_loopw [7, 8] (fun x v w' => Rel4_cols w wo base us xs i f4 u5 lg x v w') (fun _ v _ => 30 - (intOf v).toNat)
    case atStart => exact ⟨0, rfl, by omega, ⟨by rw [← HRW.out]; exact HR0.out⟩, HLO, HFi4, HFl4, HCi, ⟨Nat.le_refl _⟩⟩
    case round =>
     clear HR0 HLO HFi4 HFl4 HCi
     obtain ⟨k, rfl, hk, HR', HLO, HFi, HFl, HCi, HWS⟩ := hrel
     have HR := am (HRW.out ▸ HR'.out)
     clear HR'
     have HK := am hk
     clear hk
     by_cases hlk : k < 30
     ·have eK : wrap64 ((k : Int) + 1) = (k : Int) + 1 := IntWalk.wrap64_in _ (by omega)
      go_wp2_with (first | ((with_reducible refine gate_builtin (b := .append) (xs := #[.tmp 48, .tmp 51]) rfl ?_); at_builtin; (try rw [eM]); refine R_append_kept (Kd.int .i64) base rfl (.tmp 48) (.tmp 51) 48 3 (.int .i64 0) 8 rfl Tryd.underlying48 info3 rfl (by decide) (by omega) _ (List.replicate r.length (muC i) ++ List.replicate k (nuC i)) (nuC i) [.int .i64 (500000 + (i : Int))] (fun q => f4 q = i ∧ True) (fun _ => False) rfl ?aX ?aP (fun _ hk => hk.elim) ?aF HR.out (Nat.le_trans HB.out HCi.out.size) ?aL ?_; (case aX => first | rfl | (show Value.slice _ _ _ = Value.slice _ _ _; simp)); (case aP => exact rfl); (case aF => exact (fun q hq => ⟨HF4.out q (Nat.le_trans HWS.out hq), trivial⟩)); (case aL => rw [List.length_append, List.length_replicate, List.length_replicate]; have := HMR.out; omega); intro v1 W1 ho_ hkp_ hg_ hat_; obtain ⟨A1, c1, hv_⟩ := Kd.R_slice ho_; rw [show ((List.replicate r.length (muC i) ++ List.replicate k (nuC i)) ++ [nuC i]).length = r.length + (k + 1) from by simp only [List.length_append, List.length_replicate, List.length_singleton]; omega] at hv_; subst hv_; have HR1 := am ho_; skip; have HL1 := am (own_over HLO.out hg_ (fun q hq => Kd.R_typed HR.out q hq) (by decide)); have HC1 := am (HCi.out.tgrown hg_ (fun q hq => ⟨Kd.R_base HR.out q hq, Kd.R_typed HR.out q hq⟩)); have HI1 := am (HFi.out.keep (i := i) (S := fun q => u7.ownBlock = some q) (Chg.of_grown hg_ (fun q hq => hq)) (fun q _ hq => (HR.out.1 q hq).1) (fun hi_ => row_share (by decide) rfl (HFi.out.row i hi_) (zs := List.replicate k (nuC i)) (by rw [mk1_at _ hlt, if_pos hlt, ← HRW.out]; exact HR.out) (by rw [mk1_at _ hlt, if_pos hlt, ← HRW.out]; exact hkp_) rfl hg_)); have HL2 := am (HFl.out.chg (S := fun q => u7.ownBlock = some q) (Chg.of_grown hg_ (fun q hq => hq)) (fun q _ hlt_ hq => by have h_ := (HR.out.1 q hq).1; rw [mk3_length] at hlt_; omega)); have HW1 := am (Nat.le_trans HWS.out hg_.size); clear ho_ hkp_ hg_ hat_))
      go_roundw
      case rel => first
       | exact ⟨k + 1, by first | rfl | (rw [eK]; rfl), hlk, ⟨by rw [List.replicate_succ', ← List.append_assoc, ← HRW.out]; exact HR1.out⟩, HL1, HI1, HL2, HC1, HW1⟩
       | (refine ⟨_, _, ?_, rfl, rfl⟩; exact ⟨k + 1, rfl, hlk, ⟨by rw [List.replicate_succ', ← List.append_assoc, ← HRW.out]; exact HR1.out⟩, HL1, HI1, HL2, HC1, HW1⟩)
      case measure => first | exact mu2_ hlk (Int.lt_succ _) | exact mu2_ hlk (by rw [eK]; exact Int.lt_succ _)
     have hk := HK.out
     clear HK
     obtain rfl : k = 30 := by omega
     clear hk hlk
     obtain ⟨Ax, cx, hxv⟩ := Kd.R_slice HR.out
     rw [List.length_append, List.length_replicate, List.length_replicate] at hxv
     subst hxv
     have HLL := am (show lg.length = i from by have h_ := HFl.out.len; rw [mk3_length] at h_; exact h_)
     go_wp2_with (first | ((with_reducible refine gate_builtin (b := .append) (xs := #[.tmp 53, .tmp 55]) rfl ?_); at_builtin; refine print_append_cells (w0 := wr) w.heap.size rfl (.tmp 53) (.tmp 55) 40 48 (.slice none 0 0) 1 24 rfl Tryd.underlying40 info48 rfl (by decide) (by decide) u5 lg.length lg [(.slice Ax (r.length + 30) cx : Value)] rfl ?aX rfl ?a1 HLO.out (Below.refl _ _) HCi.out.size ?aL ?_; (case aX => first | rfl | (show Value.slice _ _ _ = Value.slice _ _ _; simp)); (case a1 => intro q_ hq_; rw [List.mem_singleton] at hq_; subst hq_; rfl); (case aL => have := HLL.out; have := HN.out; omega); intro v1 W1 ho_ hb_ hg_ hat_; have HLT := am (fun q hq => own_typed HLO.out q hq); have HR1 := am (R_over3 HR.out hg_ HLT.out (by decide)); have HI1 := am (HFi.out.over hg_ HLT.out (by decide)); have HL1 := am (HFl.out.over hg_ HLT.out (by decide)); have HC1 := am (HCi.out.newgrown hg_ (fun q hq => own_base HLO.out q hq)); have HO1 := am ho_; clear ho_ hb_ hg_ hat_))
     go_roundw
     case rel => first
      | exact ⟨i + 1, f4, lg ++ [(.slice Ax (r.length + 30) cx : Value)], by first | rfl | (rw [eI]; rfl), hlt, ⟨by rw [List.length_append, List.length_singleton]; exact HO1.out⟩, HI1, ⟨by rw [mk3_succ, ← HRW.out]; exact HL1.out.snoc (by rw [mk3_length]; exact HR1.out)⟩, HC1⟩
      | (refine ⟨_, _, _, _, ?_, rfl, rfl, rfl, rfl⟩; exact ⟨i + 1, f4, lg ++ [(.slice Ax (r.length + 30) cx : Value)], rfl, hlt, ⟨by rw [List.length_append, List.length_singleton]; exact HO1.out⟩, HI1, ⟨by rw [mk3_succ, ← HRW.out]; exact HL1.out.snoc (by rw [mk3_length]; exact HR1.out)⟩, HC1⟩)
     case measure => first | exact mu2_ hlt (Int.lt_succ _) | exact mu2_ hlt (by rw [eI]; exact Int.lt_succ _)
   have hi := HI.out
   clear HI
   obtain rfl : i = xs.length := by omega
   clear hi hlt
   have eD : decide ((xs.length : Int) < (xs.length : Int)) = false := decide_eq_false (by omega)
   have HLL := am (show lg.length = xs.length from by have h_ := HFl.out.len; rw [mk3_length] at h_; exact h_)
   obtain ⟨B, cB, hbv⟩ := own_slice HLO.out
   rw [HLL.out] at hbv
   subst hbv
   have HBD := am (show 0 < xs.length → ∃ gb, B = some ⟨gb, 0, none⟩ from fun hp => by
    rcases HLO.out.2 with ⟨e_, h0⟩ | ⟨g, cap, cur, e_, _⟩
    ·have := HLL.out; omega
    injection e_ with e1_ _ _
    exact ⟨g, e1_⟩)
   have HBV := am (show ∀ i, i < xs.length → ∃ Bi di, lg.getD i undef = .slice Bi ((xs.getD i []).length + 30) di from fun i hi => by
    have h_ := Kd.R_slice (HFl.out.row i (by rw [mk3_length]; exact hi))
    rw [mk3_at _ _ hi, List.length_append, List.length_replicate, List.length_replicate] at h_
    exact h_)
   go_wp2
   clear eD
   obtain ⟨w5, hw5⟩ : ∃ w5 : World, w5 = wr := ⟨_, rfl⟩
   subst hw5
   go_loopw [9] (fun v w' => Rel5_cols w5 xs.length v w') (fun v _ => xs.length - (intOf v).toNat)
   case atStart => exact ⟨0, rfl, Nat.zero_le _, ⟨Below.refl _ _⟩⟩
   case round =>
    obtain ⟨i, rfl, hi, HB5⟩ := hrel
    have HI := am hi
    clear hi
    by_cases hlt : i < xs.length
    ·obtain ⟨gl, rfl⟩ := HAD.out (by omega)
     obtain ⟨Ai, ci, hui⟩ := HUV.out i hlt
     obtain ⟨r, hrr⟩ : ∃ r, r = xs.getD i [] := ⟨_, rfl⟩
     have HRW := am hrr
     rw [← hrr] at hui
     have HUI := am hui
     have HMR := am (show (r.length + 30) * 8 ≤ 140737488355328 from by rw [hrr]; exact HM.out i hlt)
     clear hui hrr
     obtain ⟨gb, rfl⟩ := HBD.out (by omega)
     obtain ⟨Bi, di, hbi⟩ := HBV.out i hlt
     rw [← HRW.out] at hbi
     have HBI := am hbi
     clear hbi
     have eI : wrap64 ((i : Int) + 1) = (i : Int) + 1 := IntWalk.wrap64_in _ (by have := HN.out; omega)
     have eM : wrap64 (1000 + (i : Int)) = 1000 + (i : Int) := IntWalk.wrap64_in _ (by have := HN.out; omega)
     have eN : wrap64 (500000 + (i : Int)) = 500000 + (i : Int) := IntWalk.wrap64_in _ (by have := HN.out; omega)
     have HL5 := am (show w5.cell? ⟨gl, i, none⟩ = some (.slice Ai r.length ci) from (outer_chg HOW.out HCi.out (by decide) (by rw [HLN.out]; exact hlt)).trans (congrArg some HUI.out))
     have HG5 := am (show w5.cell? ⟨gb, i, none⟩ = some (.slice Bi (r.length + 30) di) from (outer_cell (by have h_ := HLO.out; rw [HLL.out] at h_; rw [HLL.out]; exact h_) (by rw [HLL.out]; exact hlt)).trans (congrArg some HBI.out))
     have HR5 := am (show (Kd.int .i64).R 3 w5 base (fun q => f3 q = i ∧ True) (.slice Ai r.length ci) (List.replicate r.length (muC i)) from by have h_ := HFi.out.row i (by rw [mk1_length]; exact hlt); rw [mk1_at _ hlt, if_pos hlt, HUI.out, ← HRW.out] at h_; exact h_)
     have HZ5 := am (show (Kd.int .i64).R 3 w5 base (fun q => f3 q = i ∧ True) (.slice Bi (r.length + 30) di) (List.replicate r.length (muC i) ++ List.replicate 30 (nuC i)) from by have h_ := HFl.out.row i (by rw [mk3_length]; exact hlt); rw [mk3_at _ _ hlt, HBI.out, ← HRW.out] at h_; exact h_)
     go_wp2
     obtain ⟨wo, hwo⟩ : ∃ wo : World, wo = wr := ⟨_, rfl⟩
     subst hwo
     go_loopw [10] (fun v w' => Rel5_cols w5 (r.length + 30) v w') (fun v _ => (r.length + 30) - (intOf v).toNat)
     case atStart => exact ⟨0, rfl, Nat.zero_le _, HB5⟩
     case round =>
      clear HB5
      obtain ⟨k, rfl, hk, HB5⟩ := hrel
      have HK := am hk
      clear hk
      have l0 := pw_cell_below HB5.out HL5.out
      have g0 := pw_cell_below HB5.out HG5.out
      by_cases hlk : k < r.length + 30
      ·have eK : wrap64 ((k : Int) + 1) = (k : Int) + 1 := IntWalk.wrap64_in _ (by have := HMR.out; omega)
       have eLL : decide ((k : Int) < (r.length : Int) + 30) = true := decide_eq_true (by omega)
       obtain ⟨gy, dy, hgy, _⟩ := Kd.R_form HZ5.out (by rw [List.length_append, List.length_replicate, List.length_replicate]; omega)
       rw [List.length_append, List.length_replicate, List.length_replicate] at hgy
       injection hgy with hgy1 _ hgy3
       subst hgy1
       subst hgy3
       by_cases hll : k < r.length
       ·have eL : decide (k < r.length) = true := decide_eq_true hll
        have eG : decide (r.length ≤ k) = false := decide_eq_false (by omega)
        obtain ⟨gx, dx, hgx, _⟩ := Kd.R_form HR5.out (by rw [List.length_replicate]; omega)
        rw [List.length_replicate] at hgx
        injection hgx with hgx1 _ hgx3
        subst hgx1
        subst hgx3
        have x0 : wr.cell? ⟨gx, k, none⟩ = some (.int .i64 (1000 + (i : Int))) := (pw_cell_below HB5.out (int_at HR5.out k hll).1).trans (by have h_ := repl_at (a := muC i) (z := 0) (l := []) hll; rw [List.append_nil] at h_; rw [h_]; rfl)
        have y0 : wr.cell? ⟨gy, k, none⟩ = some (.int .i64 (1000 + (i : Int))) := (pw_cell_below HB5.out (int_at HZ5.out k (by omega)).1).trans (by rw [repl_at hll]; rfl)
        go_wp2
        go_quiet (fail)
        generalize hWD : wr.drewN nq = W1
        have HB6 := am (show Below w5.heap.size w5 W1 from by rw [← hWD]; exact pw_below_drewN HB5.out nq)
        clear hWD
        go_wp2
        go_roundw
        case rel => first
         | exact ⟨k + 1, by first | rfl | (rw [eK]; rfl), hlk, HB6⟩
         | (refine ⟨_, ?_, rfl⟩; exact ⟨k + 1, rfl, hlk, HB6⟩)
        case measure => first | exact mu2_ hlk (Int.lt_succ _) | exact mu2_ hlk (by rw [eK]; exact Int.lt_succ _)
       have eL : decide (k < r.length) = false := decide_eq_false hll
       have eG : decide (r.length ≤ k) = true := decide_eq_true (by omega)
       have y0 : wr.cell? ⟨gy, k, none⟩ = some (.int .i64 (500000 + (i : Int))) := (pw_cell_below HB5.out (int_at HZ5.out k (by omega)).1).trans (by rw [repl_at2 (by omega) (by omega)]; rfl)
       clear hll
       go_wp2
       go_quiet (fail)
       generalize hWD : wr.drewN nq = W1
       have HB6 := am (show Below w5.heap.size w5 W1 from by rw [← hWD]; exact pw_below_drewN HB5.out nq)
       clear hWD
       go_wp2
       go_roundw
       case rel => first
        | exact ⟨k + 1, by first | rfl | (rw [eK]; rfl), hlk, HB6⟩
        | (refine ⟨_, ?_, rfl⟩; exact ⟨k + 1, rfl, hlk, HB6⟩)
       case measure => first | exact mu2_ hlk (Int.lt_succ _) | exact mu2_ hlk (by rw [eK]; exact Int.lt_succ _)
      have hk := HK.out
      clear HK
      obtain rfl : k = r.length + 30 := by omega
      clear hk hlk
      have eD : decide (((r.length : Int) + 30) < ((r.length : Int) + 30)) = false := decide_eq_false (by omega)
      go_wp2
      go_roundw
      case rel => first
       | exact ⟨i + 1, by first | rfl | (rw [eI]; rfl), hlt, HB5⟩
       | (refine ⟨_, _, ?_, rfl, rfl⟩; exact ⟨i + 1, rfl, hlt, HB5⟩)
      case measure => first | exact mu2_ hlt (Int.lt_succ _) | exact mu2_ hlt (by rw [eI]; exact Int.lt_succ _)
    have hi := HI.out
    clear HI
    obtain rfl : i = xs.length := by omega
    clear hi hlt
    have eD : decide ((xs.length : Int) < (xs.length : Int)) = false := decide_eq_false (by omega)
    go_wp2
    go_ret
    exact ⟨rfl, HCi.out.step HB5.out⟩
end Go.Proofs.YtbhpjpeknooppaaDoor.M
namespace Go.Proofs.YtbhpjpeknooppaaDoor.M
open Go.RowKit Go.Proofs.YtbhpjpeknooppaaDoorW.PrintWords Go.Proofs.YtbhpjpeknooppaaDoorW.PrintLast Go.Proofs.YtbhpjpeknooppaaDoorW.PrintMore
open Go.Proofs.YtbhpjpeknooppaaDoor.PCodeSpares
set_option linter.unusedVariables false
set_option linter.unusedSimpArgs false
def muK (i : Nat) : S47 := ⟨0, 0, 0, 1000 + (i : Int), 0⟩
def nuK (i : Nat) : S47 := ⟨0, 0, 0, 500000 + (i : Int), 0⟩
theorem alcodes_ {n k b N : Nat} (h : (n + 30) * b ≤ N) (hk : k < 30) : (n + k + 1) * b ≤ N := Nat.le_trans (Nat.mul_le_mul_right _ (by omega)) h
def Rel1_codes (w : World) (base : Nat) (f : Nat → Nat) (us : List Value) (xs : List (List S47)) (v : Value) (w' : World) : Prop :=
 ∃ i : Nat, v = .int .i64 (i : Int) ∧ i ≤ xs.length ∧ Aside0 (Fam k47 47 w' base (fun _ => True) f us (mk1 muK xs i)) ∧ Aside0 (Chg (TY w base 47) w w')
def Rel2_codes (w : World) (base : Nat) (f : Nat → Nat) (us : List Value) (xs : List (List S47)) (i : Nat) (v : Value) (w' : World) : Prop :=
 ∃ k : Nat, v = .int .i64 (k : Int) ∧ k ≤ (xs.getD i []).length ∧ Aside0 (Fam k47 47 w' base (fun _ => True) f us (mk2 muK xs i k)) ∧ Aside0 (Chg (TY w base 47) w w')
def Rel3_codes (w : World) (base : Nat) (us : List Value) (xs : List (List S47)) (vl v : Value) (w' : World) : Prop :=
 ∃ (i : Nat) (f : Nat → Nat) (lg : List Value), v = .int .i64 (i : Int) ∧ i ≤ xs.length ∧ Aside0 (w'.ownsRow w.heap.size 39 1 vl lg.length lg) ∧ Aside0 (Fam k47 47 w' base (fun _ => True) f us (mk1 muK xs xs.length)) ∧ Aside0 (Fam k47 47 w' base (fun _ => True) f lg (mk3 muK nuK xs i)) ∧ Aside0 (Chg (TY w base 47) w w')
def Rel4_codes (w wo : World) (base : Nat) (us : List Value) (xs : List (List S47)) (i : Nat) (f : Nat → Nat) (vl : Value) (lg : List Value) (x v : Value) (w' : World) : Prop :=
 ∃ k : Nat, v = .int .i64 (k : Int) ∧ k ≤ 30 ∧ Aside0 (k47.R 47 w' base (fun q => f q = i ∧ True) x (List.replicate (xs.getD i []).length (muK i) ++ List.replicate k (nuK i))) ∧ Aside0 (w'.ownsRow w.heap.size 39 1 vl lg.length lg) ∧ Aside0 (Fam k47 47 w' base (fun _ => True) f us (mk1 muK xs xs.length)) ∧ Aside0 (Fam k47 47 w' base (fun _ => True) f lg (mk3 muK nuK xs i)) ∧ Aside0 (Chg (TY w base 47) w w') ∧ Aside0 (wo.heap.size ≤ w'.heap.size)
def Rel5_codes (w5 : World) (n : Nat) (v : Value) (w' : World) : Prop := ∃ i : Nat, v = .int .i64 (i : Int) ∧ i ≤ n ∧ Aside0 (Below w5.heap.size w5 w')
theorem info39 : (Tryd.prog.info? 39).map (fun i => (i.zero, i.size, i.bytes)) = some (some (.slice none 0 0), 1, 24) := by kernel_rfl
attribute [local go_sem high] eqA47
theorem rowlenK_ {m : S47} {k : Nat} {r : List S47} (h : k ≤ r.length) : (List.replicate k m ++ r.drop k).length = r.length := by
 rw [List.length_append, List.length_replicate, List.length_drop]
 omega
theorem replK_at {a : S47} {n : Nat} {l : List S47} {k : Nat} (h : k < n) : rd_T47 (List.replicate n a ++ l) (k : Int) = a := by
 unfold rd_T47
 rw [Int.toNat_natCast, List.getD_eq_getElem?_getD, List.getElem?_append_left (by rw [List.length_replicate]; exact h), List.getElem?_replicate, if_pos h]
 rfl
theorem replK_at2 {a b : S47} {n m : Nat} {k : Nat} (h : n ≤ k) (h2 : k < n + m) : rd_T47 (List.replicate n a ++ List.replicate m b) (k : Int) = b := by
 unfold rd_T47
 rw [Int.toNat_natCast, List.getD_eq_getElem?_getD, List.getElem?_append_right (by rw [List.length_replicate]; exact h), List.length_replicate, List.getElem?_replicate, if_pos (by omega)]
 rfl
set_option maxHeartbeats 8000000 in
set_option maxRecDepth 100000 in
theorem codes_apart (w : World) (base : Nat) (f : Nat → Nat) (vl : Value) (us : List Value) (xs : List (List S47)) (ho : w.ownsRow base 39 1 vl us.length us) (hf : Fam k47 47 w base (fun _ => True) f us xs) (hbase : base ≤ w.heap.size) (hn : xs.length ≤ 5864062014805) (hm : ∀ x ∈ xs, (x.length + 30) * 40 ≤ 140737488355328) :
  Calls Tryd.prog 13 #[vl] w fun e w' => e = .returned (.bool true) ∧ Chg (TY w base 47) w w' := by
 obtain ⟨A, cA, rfl⟩ := own_slice ho
 have hlen := hf.len
 have HOW := am ho
 rw [hlen]
 have HF := am hf
 have HLN := am hlen
 have HB := am hbase
 have HN := am hn
 have HM := am (show ∀ i, i < xs.length → ((xs.getD i []).length + 30) * 40 ≤ 140737488355328 from fun i hi => hm _ (by rw [List.getD_eq_getElem?_getD, List.getElem?_eq_getElem hi]; exact List.getElem_mem hi))
 have HUV := am (show ∀ i, i < xs.length → ∃ Ai ci, us.getD i undef = .slice Ai (xs.getD i []).length ci from fun i hi => Kd.R_slice (hf.row i hi))
 have HAD := am (show 0 < xs.length → ∃ gl, A = some ⟨gl, 0, none⟩ from fun hp => by
  rcases ho.2 with ⟨e_, h0⟩ | ⟨g, cap, cur, e_, _⟩
  ·omega
  injection e_ with e1_ _ _
  exact ⟨g, e1_⟩)
 clear ho hf hbase hn hm hlen
 go_enter Tryd.func13, Tryd.ntmps13
 go_wp2
 go_loopw [3] (fun v w' => Rel1_codes w base f us xs v w') (fun v _ => xs.length - (intOf v).toNat)
 case atStart => exact ⟨0, rfl, Nat.zero_le _, ⟨by rw [mk1_zero]; exact HF.out⟩, ⟨Chg.refl _ _⟩⟩
 case round =>
  obtain ⟨i, rfl, hi, HFi, HCi⟩ := hrel
  have HI := am hi
  clear hi
  by_cases hlt : i < xs.length
  ·obtain ⟨gl, rfl⟩ := HAD.out (by omega)
   obtain ⟨Ai, ci, hui⟩ := HUV.out i hlt
   obtain ⟨r, hrr⟩ : ∃ r, r = xs.getD i [] := ⟨_, rfl⟩
   have HRW := am hrr
   rw [← hrr] at hui
   have HUI := am hui
   have HMR := am (show (r.length + 30) * 40 ≤ 140737488355328 from by rw [hrr]; exact HM.out i hlt)
   clear hui hrr
   have eI : wrap64 ((i : Int) + 1) = (i : Int) + 1 := IntWalk.wrap64_in _ (by have := HN.out; omega)
   have eM : wrap64 (1000 + (i : Int)) = 1000 + (i : Int) := IntWalk.wrap64_in _ (by have := HN.out; omega)
   have l0 : wr.cell? ⟨gl, i, none⟩ = some (.slice Ai r.length ci) := (outer_chg HOW.out HCi.out (by decide) (by rw [HLN.out]; exact hlt)).trans (congrArg some HUI.out)
   go_wp2
   clear l0
   obtain ⟨wo, hwo⟩ : ∃ wo : World, wo = wr := ⟨_, rfl⟩
   subst hwo
   go_loopw [4] (fun v w' => Rel2_codes w base f us xs i v w') (fun v _ => r.length - (intOf v).toNat)
   case atStart => exact ⟨0, rfl, Nat.zero_le _, ⟨by rw [mk2_zero _ hlt]; exact HFi.out⟩, HCi⟩
   case round =>
    clear HFi HCi
    obtain ⟨k, rfl, hk, HFk, HCk⟩ := hrel
    rw [← HRW.out] at hk
    have HK := am hk
    clear hk
    have l0 : wr.cell? ⟨gl, i, none⟩ = some (.slice Ai r.length ci) := (outer_chg HOW.out HCk.out (by decide) (by rw [HLN.out]; exact hlt)).trans (congrArg some HUI.out)
    by_cases hlk : k < r.length
    ·have eK : wrap64 ((k : Int) + 1) = (k : Int) + 1 := IntWalk.wrap64_in _ (by have := HMR.out; omega)
     have hro0 := HFk.out.row i (by rw [mk2_length]; exact hlt)
     rw [mk2_at _ hlt, ← HRW.out, HUI.out] at hro0
     obtain ⟨gi, cp, hgi, _⟩ := Kd.R_form hro0 (by rw [rowlenK_ (Nat.le_of_lt hlk)]; omega)
     rw [rowlenK_ (Nat.le_of_lt hlk)] at hgi
     injection hgi with hgi1 _ hgi3
     subst hgi1
     subst hgi3
     have HRO := am hro0
     have HLK := am hlk
     clear hro0
     go_wp2_with (first | ((with_reducible refine gate_store (t := 47) (p := 34) rfl ?_); (try rw [eM]); refine Kd.R_store k47 (w0 := wr) base rfl rfl 47 _ _ rfl 47 (o' := k * 5) ((k : Nat) : Int) 0 (List.replicate k (muK i) ++ r.drop k) (muK i) (.agg #[.int .i64 0, .int .i64 0, .int .i64 0, .int .i64 (1000 + (i : Int)), .int .i64 0]) [.int .i64 0, .int .i64 0, .int .i64 0, .int .i64 (1000 + (i : Int)), .int .i64 0] [.int .i64 (rd_T47 (List.replicate k (muK i) ++ r.drop k) (k : Int)).f0, .int .i64 (rd_T47 (List.replicate k (muK i) ++ r.drop k) (k : Int)).f1, .int .i64 (rd_T47 (List.replicate k (muK i) ++ r.drop k) (k : Int)).f2, .int .i64 (rd_T47 (List.replicate k (muK i) ++ r.drop k) (k : Int)).f3, .int .i64 (rd_T47 (List.replicate k (muK i) ++ r.drop k) (k : Int)).f4] (fun q => f q = i ∧ True) (fun _ => False) ?zza ?zzo rfl rfl ?zzt ?zz1 HRO.out ?zz0 ?zzi ?zzl ?zzc ?zzj ?zzm (fun _ h_ => h_.elim) (Below.refl _ _) ?_; (case zza => rfl); (case zzo => rw [Int.toNat_natCast]; rfl); (case zzt => kernel_rfl); (case zz1 => intro q_ hq_; simp at hq_; rcases hq_ with rfl | rfl | rfl <;> rfl); (case zz0 => omega); (case zzi => have := HLK.out; omega); (case zzl => rfl); (case zzc => rw [Int.toNat_natCast]; exact row47 HRO.out k HLK.out); (case zzj => exact Nat.le_refl _); (case zzm => exact k47_mkM _ _ _ _); intro W1 ho_ hb_ hg_; rw [Int.toNat_natCast] at ho_; have HC1 := am (HCk.out.tgrown hg_ (fun q hq => by injection hq with hq; subst hq; exact ⟨Kd.R_base HRO.out _ rfl, Kd.R_typed HRO.out _ rfl⟩)); have HF1 := am (show Fam k47 47 W1 base (fun _ => True) f us (mk2 muK xs i (k + 1)) from by have h_ := HFk.out.put (i := i) (S := fun q => q = gi) (by rw [mk2_length]; exact hlt) (Chg.of_grown hg_ (fun q hq => by injection hq with hq; exact hq.symm)) (fun q _ hq => by subst hq; exact (HRO.out.1 _ rfl).1) (by rw [HUI.out]; exact ho_); rw [HRW.out, mk2_succ _ hlt (by rw [← HRW.out]; exact HLK.out)] at h_; exact h_); clear ho_ hb_ hg_ l0))
     go_roundw
     case rel => first
      | exact ⟨k + 1, by first | rfl | (rw [eK]; rfl), by rw [← HRW.out]; exact HLK.out, HF1, HC1⟩
      | (refine ⟨_, ?_, rfl⟩; exact ⟨k + 1, rfl, by rw [← HRW.out]; exact HLK.out, HF1, HC1⟩)
     case measure => first | exact mu2_ hlk (Int.lt_succ _) | exact mu2_ hlk (by rw [eK]; exact Int.lt_succ _)
    have hk := HK.out
    clear HK
    obtain rfl : k = r.length := by omega
    have HFn := am (show Fam k47 47 wr base (fun _ => True) f us (mk1 muK xs (i + 1)) from by have h_ := HFk.out; rw [HRW.out, mk2_full _ hlt] at h_; exact h_)
    clear hk hlk HFk
    have eD : decide ((r.length : Int) < (r.length : Int)) = false := decide_eq_false (by omega)
    go_wp2
    go_roundw
    case rel => first
     | exact ⟨i + 1, by first | rfl | (rw [eI]; rfl), hlt, HFn, HCk⟩
     | (refine ⟨_, _, ?_, rfl, rfl⟩; exact ⟨i + 1, rfl, hlt, HFn, HCk⟩)
    case measure => first | exact mu2_ hlt (Int.lt_succ _) | exact mu2_ hlt (by rw [eI]; exact Int.lt_succ _)
  have hi := HI.out
  clear HI
  obtain rfl : i = xs.length := by omega
  clear hi hlt
  have eD : decide ((xs.length : Int) < (xs.length : Int)) = false := decide_eq_false (by omega)
  go_wp2
  clear eD
  obtain ⟨w3, hw3⟩ : ∃ w3 : World, w3 = wr := ⟨_, rfl⟩
  subst hw3
  go_loopw [5, 6] (fun vl v w' => Rel3_codes w base us xs vl v w') (fun _ v _ => xs.length - (intOf v).toNat)
  case atStart => exact ⟨0, f, [], rfl, Nat.zero_le _, ⟨World.ownsRow_nil _ _ _ _⟩, HFi, ⟨Fam.nil _ _ _ _ _ _⟩, HCi⟩
  case round =>
   clear HFi HCi
   obtain ⟨i, f3, lg, rfl, hi, HLO, HFi, HFl, HCi⟩ := hrel
   have HI := am hi
   clear hi
   by_cases hlt : i < xs.length
   ·obtain ⟨gl, rfl⟩ := HAD.out (by omega)
    obtain ⟨Ai, ci, hui⟩ := HUV.out i hlt
    obtain ⟨r, hrr⟩ : ∃ r, r = xs.getD i [] := ⟨_, rfl⟩
    have HRW := am hrr
    rw [← hrr] at hui
    have HUI := am hui
    have HMR := am (show (r.length + 30) * 40 ≤ 140737488355328 from by rw [hrr]; exact HM.out i hlt)
    clear hui hrr
    have eI : wrap64 ((i : Int) + 1) = (i : Int) + 1 := IntWalk.wrap64_in _ (by have := HN.out; omega)
    have eM : wrap64 (500000 + (i : Int)) = 500000 + (i : Int) := IntWalk.wrap64_in _ (by have := HN.out; omega)
    have l0 : wr.cell? ⟨gl, i, none⟩ = some (.slice Ai r.length ci) := (outer_chg HOW.out HCi.out (by decide) (by rw [HLN.out]; exact hlt)).trans (congrArg some HUI.out)
    obtain ⟨f4, hf4⟩ : ∃ f4 : Nat → Nat, f4 = fun q => if q < wr.heap.size then f3 q else i := ⟨_, rfl⟩
    have HF4 := am (show ∀ q, wr.heap.size ≤ q → f4 q = i from fun q hq => by rw [hf4]; exact if_neg (by omega))
    have HX := am (show ∀ q, q < wr.heap.size → f4 q = f3 q from fun q hq => by rw [hf4]; exact if_pos hq)
    clear hf4
    have HFi4 := am (HFi.out.ext HX.out)
    have HFl4 := am (HFl.out.ext HX.out)
    clear HFi HFl HX
    have HR0 := am (show k47.R 47 wr base (fun q => f4 q = i ∧ True) (.slice Ai r.length ci) (List.replicate r.length (muK i) ++ List.replicate 0 (nuK i)) from by have h_ := HFi4.out.row i (by rw [mk1_length]; exact hlt); rw [mk1_at _ hlt, if_pos hlt, HUI.out, ← HRW.out] at h_; rw [List.replicate_zero, List.append_nil]; exact h_)
    go_wp2
    clear l0
    obtain ⟨wo, hwo⟩ : ∃ wo : World, wo = wr := ⟨_, rfl⟩
    subst hwo
    go_loopw [7, 8] (fun x v w' => Rel4_codes w wo base us xs i f4 u5 lg x v w') (fun _ v _ => 30 - (intOf v).toNat)
    case atStart => exact ⟨0, rfl, by omega, ⟨by rw [← HRW.out]; exact HR0.out⟩, HLO, HFi4, HFl4, HCi, ⟨Nat.le_refl _⟩⟩
    case round =>
     clear HR0 HLO HFi4 HFl4 HCi
     obtain ⟨k, rfl, hk, HR', HLO, HFi, HFl, HCi, HWS⟩ := hrel
     have HR := am (HRW.out ▸ HR'.out)
     clear HR'
     have HK := am hk
     clear hk
     by_cases hlk : k < 30
     ·have eK : wrap64 ((k : Int) + 1) = (k : Int) + 1 := IntWalk.wrap64_in _ (by omega)
      go_wp2_with (first | ((with_reducible refine gate_builtin (b := .append) (xs := #[.tmp 49, .tmp 53]) rfl ?_); at_builtin; (try rw [eM]); refine R_append_kept k47 base rfl (.tmp 49) (.tmp 53) 39 47 (.agg #[.int .i64 0, .int .i64 0, .int .i64 0, .int .i64 0, .int .i64 0]) 40 rfl Tryd.underlying39 info47 rfl (by decide) (by omega) _ (List.replicate r.length (muK i) ++ List.replicate k (nuK i)) (nuK i) [.int .i64 0, .int .i64 0, .int .i64 0, .int .i64 (500000 + (i : Int)), .int .i64 0] (fun q => f4 q = i ∧ True) (fun _ => False) rfl ?aX ?aP (fun _ hk => hk.elim) ?aF HR.out (Nat.le_trans HB.out HCi.out.size) ?aL ?_; (case aX => first | rfl | (show Value.slice _ _ _ = Value.slice _ _ _; simp)); (case aP => exact k47_mkM _ _ _ _); (case aF => exact (fun q hq => ⟨HF4.out q (Nat.le_trans HWS.out hq), trivial⟩)); (case aL => rw [List.length_append, List.length_replicate, List.length_replicate]; exact alcodes_ HMR.out hlk); intro v1 W1 ho_ hkp_ hg_ hat_; obtain ⟨A1, c1, hv_⟩ := Kd.R_slice ho_; rw [show ((List.replicate r.length (muK i) ++ List.replicate k (nuK i)) ++ [nuK i]).length = r.length + (k + 1) from by simp only [List.length_append, List.length_replicate, List.length_singleton]; omega] at hv_; subst hv_; have HR1 := am ho_; skip; have HL1 := am (own_over HLO.out hg_ (fun q hq => Kd.R_typed HR.out q hq) (by decide)); have HC1 := am (HCi.out.tgrown hg_ (fun q hq => ⟨Kd.R_base HR.out q hq, Kd.R_typed HR.out q hq⟩)); have HI1 := am (HFi.out.keep (i := i) (S := fun q => u7.ownBlock = some q) (Chg.of_grown hg_ (fun q hq => hq)) (fun q _ hq => (HR.out.1 q hq).1) (fun hi_ => row_share (by decide) rfl (HFi.out.row i hi_) (zs := List.replicate k (nuK i)) (by rw [mk1_at _ hlt, if_pos hlt, ← HRW.out]; exact HR.out) (by rw [mk1_at _ hlt, if_pos hlt, ← HRW.out]; exact hkp_) rfl hg_)); have HL2 := am (HFl.out.chg (S := fun q => u7.ownBlock = some q) (Chg.of_grown hg_ (fun q hq => hq)) (fun q _ hlt_ hq => by have h_ := (HR.out.1 q hq).1; rw [mk3_length] at hlt_; omega)); have HW1 := am (Nat.le_trans HWS.out hg_.size); clear ho_ hkp_ hg_ hat_))
      go_roundw
      case rel => first
       | exact ⟨k + 1, by first | rfl | (rw [eK]; rfl), hlk, ⟨by rw [List.replicate_succ', ← List.append_assoc, ← HRW.out]; exact HR1.out⟩, HL1, HI1, HL2, HC1, HW1⟩
       | (refine ⟨_, _, ?_, rfl, rfl⟩; exact ⟨k + 1, rfl, hlk, ⟨by rw [List.replicate_succ', ← List.append_assoc, ← HRW.out]; exact HR1.out⟩, HL1, HI1, HL2, HC1, HW1⟩)
      case measure => first | exact mu2_ hlk (Int.lt_succ _) | exact mu2_ hlk (by rw [eK]; exact Int.lt_succ _)
     have hk := HK.out
     clear HK
     obtain rfl : k = 30 := by omega
     clear hk hlk
     obtain ⟨Ax, cx, hxv⟩ := Kd.R_slice HR.out
     rw [List.length_append, List.length_replicate, List.length_replicate] at hxv
     subst hxv
     have HLL := am (show lg.length = i from by have h_ := HFl.out.len; rw [mk3_length] at h_; exact h_)
     go_wp2_with (first | ((with_reducible refine gate_builtin (b := .append) (xs := #[.tmp 55, .tmp 57]) rfl ?_); at_builtin; refine print_append_cells (w0 := wr) w.heap.size rfl (.tmp 55) (.tmp 57) 55 39 (.slice none 0 0) 1 24 rfl Tryd.underlying55 info39 rfl (by decide) (by decide) u5 lg.length lg [(.slice Ax (r.length + 30) cx : Value)] rfl ?aX rfl ?a1 HLO.out (Below.refl _ _) HCi.out.size ?aL ?_; (case aX => first | rfl | (show Value.slice _ _ _ = Value.slice _ _ _; simp)); (case a1 => intro q_ hq_; rw [List.mem_singleton] at hq_; subst hq_; rfl); (case aL => have := HLL.out; have := HN.out; omega); intro v1 W1 ho_ hb_ hg_ hat_; have HLT := am (fun q hq => own_typed HLO.out q hq); have HR1 := am (R_over3 HR.out hg_ HLT.out (by decide)); have HI1 := am (HFi.out.over hg_ HLT.out (by decide)); have HL1 := am (HFl.out.over hg_ HLT.out (by decide)); have HC1 := am (HCi.out.newgrown hg_ (fun q hq => own_base HLO.out q hq)); have HO1 := am ho_; clear ho_ hb_ hg_ hat_))
     go_roundw
     case rel => first
      | exact ⟨i + 1, f4, lg ++ [(.slice Ax (r.length + 30) cx : Value)], by first | rfl | (rw [eI]; rfl), hlt, ⟨by rw [List.length_append, List.length_singleton]; exact HO1.out⟩, HI1, ⟨by rw [mk3_succ, ← HRW.out]; exact HL1.out.snoc (by rw [mk3_length]; exact HR1.out)⟩, HC1⟩
      | (refine ⟨_, _, _, _, ?_, rfl, rfl, rfl, rfl⟩; exact ⟨i + 1, f4, lg ++ [(.slice Ax (r.length + 30) cx : Value)], rfl, hlt, ⟨by rw [List.length_append, List.length_singleton]; exact HO1.out⟩, HI1, ⟨by rw [mk3_succ, ← HRW.out]; exact HL1.out.snoc (by rw [mk3_length]; exact HR1.out)⟩, HC1⟩)
     case measure => first | exact mu2_ hlt (Int.lt_succ _) | exact mu2_ hlt (by rw [eI]; exact Int.lt_succ _)
   have hi := HI.out
   clear HI
   obtain rfl : i = xs.length := by omega
   clear hi hlt
   have eD : decide ((xs.length : Int) < (xs.length : Int)) = false := decide_eq_false (by omega)
   have HLL := am (show lg.length = xs.length from by have h_ := HFl.out.len; rw [mk3_length] at h_; exact h_)
   obtain ⟨B, cB, hbv⟩ := own_slice HLO.out
   rw [HLL.out] at hbv
   subst hbv
   have HBD := am (show 0 < xs.length → ∃ gb, B = some ⟨gb, 0, none⟩ from fun hp => by
    rcases HLO.out.2 with ⟨e_, h0⟩ | ⟨g, cap, cur, e_, _⟩
    ·have := HLL.out; omega
    injection e_ with e1_ _ _
    exact ⟨g, e1_⟩)
   have HBV := am (show ∀ i, i < xs.length → ∃ Bi di, lg.getD i undef = .slice Bi ((xs.getD i []).length + 30) di from fun i hi => by
    have h_ := Kd.R_slice (HFl.out.row i (by rw [mk3_length]; exact hi))
    rw [mk3_at _ _ hi, List.length_append, List.length_replicate, List.length_replicate] at h_
    exact h_)
   go_wp2
   clear eD
   obtain ⟨w5, hw5⟩ : ∃ w5 : World, w5 = wr := ⟨_, rfl⟩
   subst hw5
   go_loopw [9] (fun v w' => Rel5_codes w5 xs.length v w') (fun v _ => xs.length - (intOf v).toNat)
   case atStart => exact ⟨0, rfl, Nat.zero_le _, ⟨Below.refl _ _⟩⟩
   case round =>
    obtain ⟨i, rfl, hi, HB5⟩ := hrel
    have HI := am hi
    clear hi
    by_cases hlt : i < xs.length
    ·obtain ⟨gl, rfl⟩ := HAD.out (by omega)
     obtain ⟨Ai, ci, hui⟩ := HUV.out i hlt
     obtain ⟨r, hrr⟩ : ∃ r, r = xs.getD i [] := ⟨_, rfl⟩
     have HRW := am hrr
     rw [← hrr] at hui
     have HUI := am hui
     have HMR := am (show (r.length + 30) * 40 ≤ 140737488355328 from by rw [hrr]; exact HM.out i hlt)
     clear hui hrr
     obtain ⟨gb, rfl⟩ := HBD.out (by omega)
     obtain ⟨Bi, di, hbi⟩ := HBV.out i hlt
     rw [← HRW.out] at hbi
     have HBI := am hbi
     clear hbi
     have eI : wrap64 ((i : Int) + 1) = (i : Int) + 1 := IntWalk.wrap64_in _ (by have := HN.out; omega)
     have eM : wrap64 (1000 + (i : Int)) = 1000 + (i : Int) := IntWalk.wrap64_in _ (by have := HN.out; omega)
     have eN : wrap64 (500000 + (i : Int)) = 500000 + (i : Int) := IntWalk.wrap64_in _ (by have := HN.out; omega)
     have eMi : IntKind.i64.wrap (1000 + (i : Int)) = 1000 + (i : Int) := by rw [IntWalk.i64_left]; exact eM
     have eNi : IntKind.i64.wrap (500000 + (i : Int)) = 500000 + (i : Int) := by rw [IntWalk.i64_left]; exact eN
     have HL5 := am (show w5.cell? ⟨gl, i, none⟩ = some (.slice Ai r.length ci) from (outer_chg HOW.out HCi.out (by decide) (by rw [HLN.out]; exact hlt)).trans (congrArg some HUI.out))
     have HG5 := am (show w5.cell? ⟨gb, i, none⟩ = some (.slice Bi (r.length + 30) di) from (outer_cell (by have h_ := HLO.out; rw [HLL.out] at h_; rw [HLL.out]; exact h_) (by rw [HLL.out]; exact hlt)).trans (congrArg some HBI.out))
     have HR5 := am (show k47.R 47 w5 base (fun q => f3 q = i ∧ True) (.slice Ai r.length ci) (List.replicate r.length (muK i)) from by have h_ := HFi.out.row i (by rw [mk1_length]; exact hlt); rw [mk1_at _ hlt, if_pos hlt, HUI.out, ← HRW.out] at h_; exact h_)
     have HZ5 := am (show k47.R 47 w5 base (fun q => f3 q = i ∧ True) (.slice Bi (r.length + 30) di) (List.replicate r.length (muK i) ++ List.replicate 30 (nuK i)) from by have h_ := HFl.out.row i (by rw [mk3_length]; exact hlt); rw [mk3_at _ _ hlt, HBI.out, ← HRW.out] at h_; exact h_)
     go_wp2
     obtain ⟨wo, hwo⟩ : ∃ wo : World, wo = wr := ⟨_, rfl⟩
     subst hwo
     go_loopw [10] (fun v w' => Rel5_codes w5 (r.length + 30) v w') (fun v _ => (r.length + 30) - (intOf v).toNat)
     case atStart => exact ⟨0, rfl, Nat.zero_le _, HB5⟩
     case round =>
      clear HB5
      obtain ⟨k, rfl, hk, HB5⟩ := hrel
      have HK := am hk
      clear hk
      have l0 := pw_cell_below HB5.out HL5.out
      have g0 := pw_cell_below HB5.out HG5.out
      by_cases hlk : k < r.length + 30
      ·have eK : wrap64 ((k : Int) + 1) = (k : Int) + 1 := IntWalk.wrap64_in _ (by have := HMR.out; omega)
       have eLL : decide ((k : Int) < (r.length : Int) + 30) = true := decide_eq_true (by omega)
       obtain ⟨gy, dy, hgy, _⟩ := Kd.R_form HZ5.out (by rw [List.length_append, List.length_replicate, List.length_replicate]; omega)
       rw [List.length_append, List.length_replicate, List.length_replicate] at hgy
       injection hgy with hgy1 _ hgy3
       subst hgy1
       subst hgy3
       by_cases hll : k < r.length
       ·have eL : decide (k < r.length) = true := decide_eq_true hll
        have eG : decide (r.length ≤ k) = false := decide_eq_false (by omega)
        obtain ⟨gx, dx, hgx, _⟩ := Kd.R_form HR5.out (by rw [List.length_replicate]; omega)
        rw [List.length_replicate] at hgx
        injection hgx with hgx1 _ hgx3
        subst hgx1
        subst hgx3
        have X_ := row47 HR5.out k hll
        have h_ := replK_at (a := muK i) (l := []) hll
        rw [List.append_nil] at h_
        rw [h_] at X_
        clear h_
        have xa0 := pw_cell_below HB5.out (X_ 0 _ rfl)
        have xa1 := pw_cell_below HB5.out (X_ 1 _ rfl)
        have xa2 := pw_cell_below HB5.out (X_ 2 _ rfl)
        have xa3 := pw_cell_below HB5.out (X_ 3 _ rfl)
        have xa4 := pw_cell_below HB5.out (X_ 4 _ rfl)
        clear X_
        have x0 : wr.cell? ⟨gx, k * 5, none⟩ = some (.int .i64 0) := xa0
        clear xa0
        have x1 : wr.cell? ⟨gx, k * 5 + 1, none⟩ = some (.int .i64 0) := xa1
        clear xa1
        have x2 : wr.cell? ⟨gx, k * 5 + 2, none⟩ = some (.int .i64 0) := xa2
        clear xa2
        have x3 : wr.cell? ⟨gx, k * 5 + 3, none⟩ = some (.int .i64 (1000 + (i : Int))) := xa3
        clear xa3
        have x4 : wr.cell? ⟨gx, k * 5 + 4, none⟩ = some (.int .i64 0) := xa4
        clear xa4
        have Y_ := row47 HZ5.out k (by omega)
        rw [replK_at hll] at Y_
        have ya0 := pw_cell_below HB5.out (Y_ 0 _ rfl)
        have ya1 := pw_cell_below HB5.out (Y_ 1 _ rfl)
        have ya2 := pw_cell_below HB5.out (Y_ 2 _ rfl)
        have ya3 := pw_cell_below HB5.out (Y_ 3 _ rfl)
        have ya4 := pw_cell_below HB5.out (Y_ 4 _ rfl)
        clear Y_
        have y0 : wr.cell? ⟨gy, k * 5, none⟩ = some (.int .i64 0) := ya0
        clear ya0
        have y1 : wr.cell? ⟨gy, k * 5 + 1, none⟩ = some (.int .i64 0) := ya1
        clear ya1
        have y2 : wr.cell? ⟨gy, k * 5 + 2, none⟩ = some (.int .i64 0) := ya2
        clear ya2
        have y3 : wr.cell? ⟨gy, k * 5 + 3, none⟩ = some (.int .i64 (1000 + (i : Int))) := ya3
        clear ya3
        have y4 : wr.cell? ⟨gy, k * 5 + 4, none⟩ = some (.int .i64 0) := ya4
        clear ya4
        go_wp2
        go_quiet (fail)
        generalize hWD : wr.drewN nq = W1
        have HB6 := am (show Below w5.heap.size w5 W1 from by rw [← hWD]; exact pw_below_drewN HB5.out nq)
        clear hWD
        go_wp2
        go_roundw
        case rel => first
         | exact ⟨k + 1, by first | rfl | (rw [eK]; rfl), hlk, HB6⟩
         | (refine ⟨_, ?_, rfl⟩; exact ⟨k + 1, rfl, hlk, HB6⟩)
        case measure => first | exact mu2_ hlk (Int.lt_succ _) | exact mu2_ hlk (by rw [eK]; exact Int.lt_succ _)
       have eL : decide (k < r.length) = false := decide_eq_false hll
       have eG : decide (r.length ≤ k) = true := decide_eq_true (by omega)
       have Y_ := row47 HZ5.out k (by omega)
       rw [replK_at2 (by omega) (by omega)] at Y_
       have ya0 := pw_cell_below HB5.out (Y_ 0 _ rfl)
       have ya1 := pw_cell_below HB5.out (Y_ 1 _ rfl)
       have ya2 := pw_cell_below HB5.out (Y_ 2 _ rfl)
       have ya3 := pw_cell_below HB5.out (Y_ 3 _ rfl)
       have ya4 := pw_cell_below HB5.out (Y_ 4 _ rfl)
       clear Y_
       have y0 : wr.cell? ⟨gy, k * 5, none⟩ = some (.int .i64 0) := ya0
       clear ya0
       have y1 : wr.cell? ⟨gy, k * 5 + 1, none⟩ = some (.int .i64 0) := ya1
       clear ya1
       have y2 : wr.cell? ⟨gy, k * 5 + 2, none⟩ = some (.int .i64 0) := ya2
       clear ya2
       have y3 : wr.cell? ⟨gy, k * 5 + 3, none⟩ = some (.int .i64 (500000 + (i : Int))) := ya3
       clear ya3
       have y4 : wr.cell? ⟨gy, k * 5 + 4, none⟩ = some (.int .i64 0) := ya4
       clear ya4
       clear hll
       go_wp2
       go_quiet (fail)
       generalize hWD : wr.drewN nq = W1
       have HB6 := am (show Below w5.heap.size w5 W1 from by rw [← hWD]; exact pw_below_drewN HB5.out nq)
       clear hWD
       go_wp2
       go_roundw
       case rel => first
        | exact ⟨k + 1, by first | rfl | (rw [eK]; rfl), hlk, HB6⟩
        | (refine ⟨_, ?_, rfl⟩; exact ⟨k + 1, rfl, hlk, HB6⟩)
       case measure => first | exact mu2_ hlk (Int.lt_succ _) | exact mu2_ hlk (by rw [eK]; exact Int.lt_succ _)
      have hk := HK.out
      clear HK
      obtain rfl : k = r.length + 30 := by omega
      clear hk hlk
      have eD : decide (((r.length : Int) + 30) < ((r.length : Int) + 30)) = false := decide_eq_false (by omega)
      go_wp2
      go_roundw
      case rel => first
       | exact ⟨i + 1, by first | rfl | (rw [eI]; rfl), hlt, HB5⟩
       | (refine ⟨_, _, ?_, rfl, rfl⟩; exact ⟨i + 1, rfl, hlt, HB5⟩)
      case measure => first | exact mu2_ hlt (Int.lt_succ _) | exact mu2_ hlt (by rw [eI]; exact Int.lt_succ _)
    have hi := HI.out
    clear HI
    obtain rfl : i = xs.length := by omega
    clear hi hlt
    have eD : decide ((xs.length : Int) < (xs.length : Int)) = false := decide_eq_false (by omega)
    go_wp2
    go_ret
    exact ⟨rfl, HCi.out.step HB5.out⟩
end Go.Proofs.YtbhpjpeknooppaaDoor.M
