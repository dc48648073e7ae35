/- The contracts of the compiler's lay, col and node, and what Compile gives, as Lean functions. -/
import Derived.Test.YtbhpjpeknooppaaDoorK10
import Derived.Maps.OwnOps
import Derived.Maps.OwnSet
import Derived.WideKeyMaps
namespace Go.Proofs.YtbhpjpeknooppaaDoor.M
open Go.RowKit Go.Proofs.YtbhpjpeknooppaaDoorW.PrintWords Go.Proofs.YtbhpjpeknooppaaDoorW.PrintLast Go.Proofs.YtbhpjpeknooppaaDoorW.PrintMore
open Go.Proofs.YtbhpjpeknooppaaDoor.PCodeSpares
set_option linter.unusedVariables false
structure Chg (S : Nat → Prop) (w w' : World) : Prop where
 os : w'.os = w.os
 tape : w'.tape = w.tape
 output : w'.output = w.output
 size : w.heap.size ≤ w'.heap.size
 block : ∀ k, k < w.heap.size → ¬ S k → w'.heap[k]? = w.heap[k]?
theorem Chg.refl (S : Nat → Prop) (w : World) : Chg S w w := ⟨rfl, rfl, rfl, Nat.le_refl _, fun _ _ _ => rfl⟩
theorem Chg.trans {S : Nat → Prop} {a b c : World} (h : Chg S a b) (k : Chg S b c) : Chg S a c :=
 ⟨k.os.trans h.os, k.tape.trans h.tape, k.output.trans h.output, Nat.le_trans h.size k.size, fun i hi hs => (k.block i (Nat.lt_of_lt_of_le hi h.size) hs).trans (h.block i hi hs)⟩
theorem Chg.of_below {S : Nat → Prop} {a b : World} (h : Below a.heap.size a b) : Chg S a b := ⟨h.os, h.tape, h.output, h.size, fun i hi _ => h.block i hi⟩
theorem Chg.of_grown {S : Nat → Prop} {a b : World} {row : Option Nat} (h : a.grownBy b row) (hs : ∀ k, row = some k → S k) : Chg S a b :=
 ⟨h.os, h.tape, h.output, h.size, fun i hi hn => h.block i hi (fun e => hn (hs i e.symm))⟩
theorem Chg.set_ {S : Nat → Prop} {a b : World} (h : Chg S a b) {g j : Nat} {u : Value} (hg : S g) : Chg S a (b.setCell ⟨g, j, none⟩ u) := by
 have hb : Below 0 b (b.setCell ⟨g, j, none⟩ u) := (Below.refl 0 b).setCell (Nat.zero_le _) u
 exact ⟨hb.os.trans h.os, hb.tape.trans h.tape, hb.output.trans h.output, Nat.le_trans h.size hb.size, fun i hi hn => (Below.heap_setCell b ⟨g, j, none⟩ u i (fun e => hn (e ▸ hg))).trans (h.block i hi hn)⟩
theorem Chg.drew_ {S : Nat → Prop} {a b : World} (h : Chg S a b) : Chg S a b.drew := ⟨h.os, h.tape, h.output, h.size, h.block⟩
theorem Chg.step {S : Nat → Prop} {a b c : World} (h : Chg S a b) (k : Below b.heap.size b c) : Chg S a c := h.trans (.of_below k)
theorem Chg.below {S : Nat → Prop} {a b : World} {B : Nat} (h : Chg S a b) (hB : B ≤ a.heap.size) (hs : ∀ k, S k → B ≤ k) : Below B a b :=
 ⟨h.os, h.tape, h.output, h.size, fun k hk => h.block k (Nat.lt_of_lt_of_le hk hB) (fun hn => by have := hs k hn; omega)⟩
theorem blk_chg {S : Nat → Prop} {a b : World} {g : Nat} {o : Obj} (hb : a.heap[g]? = some o) (h : Chg S a b) (hs : ¬ S g) : b.heap[g]? = some o := (h.block g (blk_lt hb) hs).trans hb
theorem R_chg {α : Type} {d : Kd α} {e base : Nat} {ok S : Nat → Prop} {v : Value} {xs : List α} {w w1 : World} (h : d.R e w base ok v xs) (hc : Chg S w w1) (hs : ∀ k, ok k → ¬ S k) : d.R e w1 base ok v xs := Kd.R_step h (fun k hk hl => hc.block k hl (hs k hk))
theorem S_chg {α : Type} {d : Kd α} {e base : Nat} {ok S : Nat → Prop} {v : Value} {xs : List α} {w w1 : World} (h : Kd.S d e w base ok v xs) (hc : Chg S w w1) (hs : ∀ k, ok k → ¬ S k) : Kd.S d e w1 base ok v xs := Kd.S_step h (fun k hk hl => hc.block k hl (hs k hk))
def keyL (v : ByteArray) : Lit := .string v.data.toList
def idxN (v : ByteArray) : List ByteArray → Nat → Option Nat
 | [], _ => none
 | x :: l, i => if x.data.toList = v.data.toList then some i else idxN v l (i + 1)
theorem idxN_snoc (v x : ByteArray) : ∀ (l : List ByteArray) (i : Nat), idxN v (l ++ [x]) i = match idxN v l i with
  | some j => some j
  | none => if x.data.toList = v.data.toList then some (i + l.length) else none
 | [], i => by simp only [List.nil_append, idxN, List.length_nil, Nat.add_zero]
 | y :: l, i => by
  rw [List.cons_append, idxN, idxN]
  by_cases h : y.data.toList = v.data.toList
  ·rw [if_pos h, if_pos h]
  rw [if_neg h, if_neg h, idxN_snoc v x l (i + 1), List.length_cons, show i + 1 + l.length = i + (l.length + 1) by omega]
section
variable {H : Type}
def MapIs (D : DataW H) (names : List ByteArray) : Prop :=
 Maps.IsMap D ∧ ∀ v : ByteArray, (idxN v names 0 = none → Maps.has D (keyL v) = false) ∧ (∀ i, idxN v names 0 = some i → Maps.has D (keyL v) = true ∧ ∀ z, D.atKey (keyL v) z = .lit (.int .i64 (i : Int)))
theorem MapIs.nil : MapIs (.map [] : DataW H) [] := ⟨Maps.isMap_empty, fun v => ⟨fun _ => rfl, fun i h => by simp [idxN] at h⟩⟩
theorem MapIs.put {D : DataW H} {names : List ByteArray} (h : MapIs D names) (x : ByteArray) (hx : idxN x names 0 = none) : MapIs (D.put (keyL x) (.lit (.int .i64 (names.length : Int)))) (names ++ [x]) := by
 have hk : WideAt.IsKeyLit (keyL x) := trivial
 refine ⟨h.1.put _ _, fun v => ?_⟩
 rw [idxN_snoc]
 by_cases he : x.data.toList = v.data.toList
 ·have hkv : keyL v = keyL x := by unfold keyL; rw [he]
  have hv : idxN v names 0 = none := by
   have key : ∀ (l : List ByteArray) i, idxN v l i = idxN x l i := by
    intro l
    induction l with
    | nil => intro i; rfl
    | cons y l ih => intro i; rw [idxN, idxN, he, ih]
   rw [key, hx]
  rw [hv, hkv]
  simp only [he, if_true, Nat.zero_add]
  refine ⟨fun hc => by simp at hc, fun i hi => ?_⟩
  simp at hi
  subst hi
  exact ⟨Maps.has_put_same h.1 hk _, fun z => Maps.atKey_put_same h.1 hk _ z⟩
 have hne : keyL v ≠ keyL x := fun hc => he (by unfold keyL at hc; injection hc with hc; exact hc.symm)
 rw [Maps.has_put_other hne]
 obtain ⟨h1, h2⟩ := h.2 v
 cases hv : idxN v names 0 with
 | none =>
  simp only [he, if_false]
  exact ⟨fun _ => h1 hv, fun i hi => by simp at hi⟩
 | some j =>
  refine ⟨fun hc => by simp at hc, fun i hi => ?_⟩
  simp at hi
  subst hi
  exact ⟨(h2 j hv).1, fun z => by rw [Maps.atKey_put_other hne]; exact (h2 j hv).2 z⟩
end
def placeI (v : ByteArray) : List ByteArray → Nat → Int
 | [], _ => -1
 | x :: l, i => if x.toList = v.toList then (i : Int) else placeI v l (i + 1)
theorem placeI_l0 (l : List ByteArray) (v : ByteArray) (hn : l.length ≤ 9223372036854775807) : ∀ (d i : Nat), l.length < d + i → i ≤ l.length → event_placeOf.l0 d v l (l.length : Int) (i : Int) = some (placeI v (l.drop i) i) := by
 intro d
 induction d with
 | zero => intro i h1 h2; omega
 | succ d ih =>
  intro i h1 h2
  by_cases hi : i < l.length
  ·have hd : l.drop i = l[i] :: l.drop (i + 1) := List.drop_eq_getElem_cons hi
   have hr : rdOf ByteArray.empty l (i : Int) = l[i] := by
    unfold rdOf
    rw [Int.toNat_natCast, List.getD_eq_getElem?_getD, List.getElem?_eq_getElem hi]
    rfl
   have hw : wrap64 ((i : Int) + 1) = ((i + 1 : Nat) : Int) := by rw [IntWalk.wrap64_in _ (by omega)]; rfl
   rw [event_placeOf.l0, if_pos (by omega), if_pos (by omega), if_pos (by omega), hr, hd, placeI, hw, ih (i + 1) (by omega) (by omega)]
   split <;> rfl
  obtain rfl : i = l.length := by omega
  rw [event_placeOf.l0, if_neg (by omega), List.drop_length, placeI]
def attrO (types : List S65) (i : Int) (v : ByteArray) : Int :=
 if i < 0 ∨ (types.length : Int) ≤ i then -1
 else if v.toList = ([116, 115] : List UInt8) then -2
 else if 0 ≤ placeI v (rd_T65 types i).f1 0 ∧ placeI v (rd_T65 types i).f1 0 < 8 then placeI v (rd_T65 types i).f1 0 else -1
theorem attrO_f (types : List S65) (i : Int) (v : ByteArray) (hn : (rd_T65 types i).f1.length ≤ 9223372036854775807) : event_AttrOf.f ((rd_T65 types i).f1.length + 2) types i v = some (attrO types i v) := by
 have hp : event_placeOf.f ((rd_T65 types i).f1.length + 1) (rd_T65 types i).f1 v = some (placeI v (rd_T65 types i).f1 0) := by
  have h := placeI_l0 (rd_T65 types i).f1 v hn ((rd_T65 types i).f1.length + 1) 0 (by omega) (by omega)
  rw [List.drop_zero] at h
  exact h
 unfold event_AttrOf.f attrO
 by_cases h0 : i < 0
 ·rw [if_pos h0, event_AttrOf.j0, if_pos rfl, if_pos (.inl h0)]
 rw [if_neg h0]
 by_cases h1 : (types.length : Int) ≤ i
 ·rw [event_AttrOf.j0, if_pos (decide_eq_true h1), if_pos (.inr h1)]
 rw [event_AttrOf.j0, if_neg (by simp; omega), if_neg (by omega : ¬ (i < 0 ∨ (types.length : Int) ≤ i))]
 by_cases h2 : v.toList = ([116, 115] : List UInt8)
 ·rw [if_pos h2, if_pos h2]
 rw [if_neg h2, if_neg h2, if_pos (by omega), if_pos (by omega), hp]
 simp only [Option.bind_some]
 by_cases h3 : 0 ≤ placeI v (rd_T65 types i).f1 0
 ·rw [if_pos h3]
  by_cases h4 : placeI v (rd_T65 types i).f1 0 < 8
  ·rw [if_pos h4, if_pos ⟨h3, h4⟩]
  rw [if_neg h4, if_neg (by omega)]
 rw [if_neg h3, if_neg (by omega)]
structure CSt where
 code : List S47
 cols : List (List Int)
 names : List ByteArray
def colOf (types : List S65) (v : ByteArray) : List Int := (List.range types.length).map fun (i : Nat) => attrO types (i : Int) v
theorem colOf_take_succ (types : List S65) (v : ByteArray) (k : Nat) (h : k < types.length) : (colOf types v).take (k + 1) = (colOf types v).take k ++ [attrO types (k : Int) v] := by
 rw [List.take_succ_eq_append_getElem (by simpa [colOf] using h)]
 simp [colOf]
theorem colOf_length (types : List S65) (v : ByteArray) : (colOf types v).length = types.length := by simp [colOf]
def colS (types : List S65) (v : ByteArray) (st : CSt) : Int × CSt := match idxN v st.names 0 with
 | some i => ((i : Int), st)
 | none => ((st.names.length : Int), ⟨st.code, st.cols ++ [colOf types v], st.names ++ [v]⟩)
def layS (st : CSt) (x : S47) : CSt := ⟨st.code ++ [x], st.cols, st.names⟩
def nodeS (types : List S65) (n : S61) (item : Int) (st : CSt) : CSt :=
 if n.f0 = 1 then layS st ⟨1, 0, 0, n.f1, 0⟩
 else if n.f0 = 2 then layS st ⟨1, 0, 0, 1, 0⟩
 else if n.f0 = 3 then layS st ⟨1, 0, 0, 0, 0⟩
 else if n.f0 = 4 then layS (colS types n.f3 st).2 ⟨2, item, (colS types n.f3 st).1, 0, 0⟩
 else if n.f0 = 11 then layS (colS types n.f3 st).2 ⟨3, item, (colS types n.f3 st).1, 0, 0⟩
 else if n.f0 = 5 then layS st ⟨4, item, 0, 0, 0⟩
 else if n.f0 < 11 then layS (colS types n.f3 st).2 ⟨n.f0 - 1, item, (colS types n.f3 st).1, 0, 0⟩
 else layS st ⟨n.f0 - 2, 0, 0, 0, 0⟩
def beS (l : List Int) (n : S61) : List Int := if n.f0 = 25 then l.set n.f4.toNat 25 else if n.f0 = 26 then l.set n.f4.toNat 26 else l
def beK (t : List S61) : Nat → List Int
 | 0 => List.replicate t.length 0
 | k + 1 => beS (beK t k) (rd_T61 t (k : Int))
def toS (n : S61) (jumps : List Int) (st : CSt) : CSt :=
 if n.f0 = 25 ∨ n.f0 = 26 then ⟨st.code.set (jumps.getD n.f4.toNat 0).toNat ⟨(rd_T47 st.code (jumps.getD n.f4.toNat 0)).f0, (rd_T47 st.code (jumps.getD n.f4.toNat 0)).f1, (rd_T47 st.code (jumps.getD n.f4.toNat 0)).f2, (rd_T47 st.code (jumps.getD n.f4.toNat 0)).f3, (st.code.length : Int)⟩, st.cols, st.names⟩ else st
def endS (be : List Int) (k : Nat) (st : CSt) (jumps : List Int) : CSt × List Int :=
 if be.getD k 0 = 0 then (st, jumps) else (layS st ⟨be.getD k 0, 0, 0, 0, 0⟩, jumps.set k (st.code.length : Int))
def cpK (types : List S65) (items : List Int) (t : List S61) : Nat → CSt × List Int
 | 0 => (⟨[], [], []⟩, List.replicate t.length 0)
 | k + 1 => endS (beK t t.length) k (toS (rd_T61 t (k : Int)) (cpK types items t k).2 (nodeS types (rd_T61 t (k : Int)) (items.getD k 0) (cpK types items t k).1)) (cpK types items t k).2
def compV (types : List S65) (its : List S67) (t : List S61) : List S47 × List (List Int) :=
 if rnbV its t = true then ((cpK types (itemsV its t) t t.length).1.code, (cpK types (itemsV its t) t t.length).1.cols) else ([], [])
end Go.Proofs.YtbhpjpeknooppaaDoor.M
namespace Go.Proofs.YtbhpjpeknooppaaDoor.M
open Go.RowKit Go.Proofs.YtbhpjpeknooppaaDoorW.PrintWords Go.Proofs.YtbhpjpeknooppaaDoorW.PrintLast Go.Proofs.YtbhpjpeknooppaaDoorW.PrintMore
open Go.Proofs.YtbhpjpeknooppaaDoor.PCodeSpares
set_option linter.unusedVariables false
set_option linter.unusedSimpArgs false
def lay_r.T : Bool × List (List Nat × List Nat) := (true, [([], []), ([], []), ([1], [1]), ([2], [2]), ([3], [3]), ([4], [4]), ([], []), ([6], [6]), ([5, 7], [5, 7]), ([0, 0, 1, 2, 3, 4, 5, 6, 7, 8], [0]), ([9, 0, 1, 2, 3, 4, 5, 6, 7, 8], [9]), ([10, 0, 1, 2, 3, 4, 5, 6, 7, 8], [10]), ([11, 8, 8, 0, 1, 2, 3, 4, 5, 6, 7, 8], [8, 11])])
def lay_r.B : List Nat := [0, 0, 2, 6, 14, 30, 0, 64, 254, 511, 1023, 2047, 4095]
theorem lay_r.tab : rtab .any (opsOf Tryd.f20 1) = lay_r.T := by kernel_rfl
theorem lay_r.bits : waitsOk lay_r.T.2 lay_r.B = true := by kernel_rfl
theorem info47 : (Tryd.prog.info? 47).map (fun i => (i.zero, i.size, i.bytes)) = some (some (.agg #[.int .i64 0, .int .i64 0, .int .i64 0, .int .i64 0, .int .i64 0]), 5, 40) := by kernel_rfl
structure CompP (w : World) (b gc gm : Nat) (ts vc vl : Value) (st : CSt) (D : DataW Unit) : Prop where
 cells : w.heap[gc]? = some (.cells #[ts, vc, vl, .map (some gm)] 81 (0, 0))
 code : Kd.R k47 47 w b (fun _ => True) vc st.code
 cols : Kd.S (Kd.slice 3 (Kd.int .i64)) 48 w b (fun _ => True) vl st.cols
 map : w.ownsMap Tryd.prog 9 (plainElem Tryd.prog 3) gm st.names.length D
 names : MapIs D st.names
 len : st.names.length = st.cols.length
 gcb : gc < b
 gmb : gm < b
 size : b ≤ w.heap.size
def CompSt (w : World) (b gc gm : Nat) (ts : Value) (st : CSt) : Prop := ∃ vc vl D, CompP w b gc gm ts vc vl st D
def InS (w : World) (b gc gm : Nat) (k : Nat) : Prop := k = gc ∨ k = gm ∨ (b ≤ k ∧ ∃ cells q, w.heap[k]? = some (.cells cells q (0, 0)) ∧ (q = 47 ∨ q = 48))
theorem InS.trans {w1 w2 w3 : World} {b gc gm : Nat} (h : Chg (InS w1 b gc gm) w1 w2) (k : Chg (InS w2 b gc gm) w2 w3) : Chg (InS w1 b gc gm) w1 w3 :=
 ⟨k.os.trans h.os, k.tape.trans h.tape, k.output.trans h.output, Nat.le_trans h.size k.size, fun i hi hs => by
  have e := h.block i hi hs
  refine (k.block i (Nat.lt_of_lt_of_le hi h.size) (fun h2 => hs ?_)).trans e
  rcases h2 with h2 | h2 | ⟨h2, cells, q, hq, h3⟩
  ·exact .inl h2
  ·exact .inr (.inl h2)
  exact .inr (.inr ⟨h2, cells, q, e ▸ hq, h3⟩)⟩
theorem CompP.ne {w : World} {b gc gm : Nat} {ts vc vl : Value} {st : CSt} {D : DataW Unit} (h : CompP w b gc gm ts vc vl st D) : gc ≠ gm := by
 rintro rfl
 obtain ⟨es, clock, hb, _⟩ := h.map
 rw [h.cells] at hb
 cases hb
theorem CompP.chg {w w' : World} {b gc gm : Nat} {ts vc vl : Value} {st : CSt} {D : DataW Unit} (h : CompP w b gc gm ts vc vl st D) (hb : Below w.heap.size w w') : CompP w' b gc gm ts vc vl st D where
 cells := blk_below h.cells hb
 code := Kd.R_below h.code hb
 cols := Kd.S_below h.cols hb
 map := h.map.kept (row := none) ⟨hb.os, hb.tape, hb.output, hb.size, fun k hk _ => hb.block k hk⟩ (by simp)
 names := h.names
 len := h.len
 gcb := h.gcb
 gmb := h.gmb
 size := Nat.le_trans h.size hb.size
theorem CompSt.chg {w w' : World} {b gc gm : Nat} {ts : Value} {st : CSt} (h : CompSt w b gc gm ts st) (hb : Below w.heap.size w w') : CompSt w' b gc gm ts st := by
 obtain ⟨vc, vl, D, h⟩ := h
 exact ⟨vc, vl, D, h.chg hb⟩
theorem CompP.put {w : World} {b gc gm : Nat} {ts vc vl vc' vl' : Value} {st : CSt} {D : DataW Unit} {st' : CSt} {w' : World} (hc : w'.heap[gc]? = some (.cells #[ts, vc', vl', .map (some gm)] 81 (0, 0)))
  (hcode : Kd.R k47 47 w b (fun _ => True) vc' st'.code) (hcols : Kd.S (Kd.slice 3 (Kd.int .i64)) 48 w b (fun _ => True) vl' st'.cols) (hm : w.ownsMap Tryd.prog 9 (plainElem Tryd.prog 3) gm st'.names.length D) (hn : MapIs D st'.names)
  (hl : st'.names.length = st'.cols.length) (h1 : gc < b) (h2 : gm < b) (hs : b ≤ w.heap.size) (hne : gc ≠ gm) (h : Chg (fun k => k = gc) w w') : CompP w' b gc gm ts vc' vl' st' D where
 cells := hc
 code := R_chg (Kd.R_mono (Kd.R_bound hcode) (ok' := fun k => b ≤ k) (fun k hk => hk.2.1)) h (fun k hk e => by omega) |> fun h => Kd.R_mono h (fun _ _ => trivial)
 cols := S_chg (Kd.S_mono (Kd.S_bound hcols) (ok' := fun k => b ≤ k) (fun k hk => hk.2.1)) h (fun k hk e => by omega) |> fun h => Kd.S_mono h (fun _ _ => trivial)
 map := hm.kept (row := some gc) ⟨h.os, h.tape, h.output, h.size, fun k hk hn => h.block k hk (fun e => hn (by rw [e]))⟩ (fun e => hne (by injection e with e; exact e.symm))
 names := hn
 len := hl
 gcb := h1
 gmb := h2
 size := Nat.le_trans hs h.size
set_option maxHeartbeats 4000000 in
set_option maxRecDepth 100000 in
theorem comp_lay (w : World) (b gc gm : Nat) (ts : Value) (st : CSt) (x0 x1 x2 x3 x4 : Int) (hst : CompSt w b gc gm ts st) (hl : (st.code.length + 1) * 40 ≤ 140737488355328) :
  Calls Tryd.prog 20 #[.pointer (some ⟨gc, 0, none⟩), .agg #[.int .i64 x0, .int .i64 x1, .int .i64 x2, .int .i64 x3, .int .i64 x4]] w fun e w' => e = .returned (.tuple #[]) ∧ CompSt w' b gc gm ts (layS st ⟨x0, x1, x2, x3, x4⟩) ∧ Chg (InS w b gc gm) w w' := by
 obtain ⟨vc, vl, D, hp⟩ := hst
 have HL := am hl
 have hp0 := am hp
 clear hp hl
 go_enter Tryd.func20, Tryd.ntmps20
 go_wp2_with (first | ((with_reducible refine gate_dst (N := 3) rfl ?_); refine box_event ?hg (N := 3) ?hd (cs := #[.int .i64 x0, .int .i64 x1, .int .i64 x2, .int .i64 x3, .int .i64 x4]) (t := 47) ?hr ?_; (case hd => rfl); (case hg => rfl); (case hr => first | (go_simp; done) | (go_simp; rfl)); intro g3 hg_ W1 hbox hb; have hq0 := am (hp0.out.chg hb); have HC0 := am (Chg.of_below (S := InS w b gc gm) hb); have BK_g3 := am hbox; have hne_ := am (show some g3 ≠ vc.ownBlock from fun e => by have := Kd.R_lt hp0.out.code g3 e.symm; omega); clear hb hbox hg_))
 refine start_ (n := 13) (S := fun w' => w'.cell? ⟨gc, 1, none⟩ = some vc ∧ w'.cell? ⟨g3, 0, none⟩ = some (.int .i64 x0) ∧ w'.cell? ⟨g3, 1, none⟩ = some (.int .i64 x1) ∧ w'.cell? ⟨g3, 2, none⟩ = some (.int .i64 x2) ∧ w'.cell? ⟨g3, 3, none⟩ = some (.int .i64 x3) ∧ w'.cell? ⟨g3, 4, none⟩ = some (.int .i64 x4)) (ds := [12]) #[false, false, false, false, false, false, false, false, false, false, false, false, false] (by kernel_rfl) rfl rfl ⟨(blk_cell hq0.out.cells 1).trans rfl, (blk_cell BK_g3.out 0).trans rfl, (blk_cell BK_g3.out 1).trans rfl, (blk_cell BK_g3.out 2).trans rfl, (blk_cell BK_g3.out 3).trans rfl, (blk_cell BK_g3.out 4).trans rfl⟩ (fun hHeld => ?_)
 refine with_tabW lay_r.tab lay_r.bits (fun HT_ HW_ => ?_)
 have hp_ := am (hq0.out.chg (below_drew1 (Below.refl _ _)))
 have hk_ := am (blk_drew BK_g3.out)
 have hc_ := am HC0.out.drew_
 clear hq0 HC0 BK_g3
 generalize W1.drew = W2 at hHeld hp_ hk_ hc_ ⊢
 refine pure_ (i := 0) (N := some 4) (v := ?_) (a' := ?_) #[true, false, false, false, false, false, false, false, false, false, false, false, false] rfl rfl (any_of HT_.out (by kernel_rfl)) (fun _ _ _ h => h) (Or.inl ⟨by rfl, ?_⟩) ?_ ?_
 rotate_left
 ·intro w'
  go_simp
  with_reducible rfl
 rotate_left
 ·simp only [Act.put, List.setIfInBounds_toArray, List.set_cons_zero, List.set_cons_succ, i64_w]
  rfl
 refine pure_ (i := 1) (N := some 5) (v := ?_) (a' := ?_) #[true, true, false, false, false, false, false, false, false, false, false, false, false] rfl rfl (any_of HT_.out (by kernel_rfl)) (fun _ _ _ h => h) (Or.inl ⟨by rfl, ?_⟩) ?_ ?_
 rotate_left
 ·intro w'
  go_simp
  with_reducible rfl
 rotate_left
 ·simp only [Act.put, List.setIfInBounds_toArray, List.set_cons_zero, List.set_cons_succ, i64_w]
  rfl
 refine pure_ (i := 2) (N := some 6) (v := ?_) (a' := ?_) #[true, true, true, false, false, false, false, false, false, false, false, false, false] rfl rfl (any_of HT_.out (by kernel_rfl)) (fun _ _ _ h => h) (Or.inl ⟨by rfl, ?_⟩) ?_ ?_
 rotate_left
 ·intro w'
  go_simp
  with_reducible rfl
 rotate_left
 ·simp only [Act.put, List.setIfInBounds_toArray, List.set_cons_zero, List.set_cons_succ, i64_w]
  rfl
 refine pure_ (i := 3) (N := some 7) (v := ?_) (a' := ?_) #[true, true, true, true, false, false, false, false, false, false, false, false, false] rfl rfl (any_of HT_.out (by kernel_rfl)) (fun _ _ _ h => h) (Or.inl ⟨by rfl, ?_⟩) ?_ ?_
 rotate_left
 ·intro w'
  go_simp
  with_reducible rfl
 rotate_left
 ·simp only [Act.put, List.setIfInBounds_toArray, List.set_cons_zero, List.set_cons_succ, i64_w]
  rfl
 refine pure_ (i := 4) (N := some 8) (v := ?_) (a' := ?_) #[true, true, true, true, true, false, false, false, false, false, false, false, false] rfl rfl (any_of HT_.out (by kernel_rfl)) (fun _ _ _ h => h) (Or.inl ⟨by rfl, ?_⟩) ?_ ?_
 rotate_left
 ·intro w'
  go_simp
  with_reducible rfl
 rotate_left
 ·simp only [Act.put, List.setIfInBounds_toArray, List.set_cons_zero, List.set_cons_succ, i64_w]
  rfl
 refine take_ (i := 5) (N := some 9) (v := ?_) (a' := ?_) #[true, true, true, true, true, true, false, false, false, false, false, false, false] rfl rfl (take_ofW HT_.out HW_.out (by kernel_rfl)) (fun _ _ _ h => h) (Or.inl ⟨by rfl, ?_⟩) hHeld ?_ ?_
 rotate_left
 ·rintro w' ⟨s0, s1, s2, s3, s4, s5⟩
  go_simp
  with_reducible rfl
 rotate_left
 ·simp only [Act.put, List.setIfInBounds_toArray, List.set_cons_zero, List.set_cons_succ, i64_w]
  rfl
 refine take_ (i := 6) (N := some 10) (v := ?_) (a' := ?_) #[true, true, true, true, true, true, true, false, false, false, false, false, false] rfl rfl (take_ofW HT_.out HW_.out (by kernel_rfl)) (fun _ _ _ h => h) (Or.inl ⟨by rfl, ?_⟩) hHeld ?_ ?_
 rotate_left
 ·rintro w' ⟨s0, s1, s2, s3, s4, s5⟩
  go_simp
  with_reducible rfl
 rotate_left
 ·simp only [Act.put, List.setIfInBounds_toArray, List.set_cons_zero, List.set_cons_succ, i64_w]
  rfl
 refine one_ (i := 7) (N := some 11) #[true, true, true, true, true, true, true, true, false, false, false, false, false] rfl rfl (one_of HT_.out (by kernel_rfl)) (by decide) (fun K hK => ?_)
 refine value_ (w1 := ?_) (v := ?_) (by rfl) rfl ?_ ?_
 rotate_left 2
 ·go_simp
  constructor
  ·rfl
  rfl
 refine hK.out _ _ ⟨(blk_cell (blk_alloc hp_.out.cells _) 1).trans rfl, (blk_cell (blk_alloc hk_.out _) 0).trans rfl, (blk_cell (blk_alloc hk_.out _) 1).trans rfl, (blk_cell (blk_alloc hk_.out _) 2).trans rfl, (blk_cell (blk_alloc hk_.out _) 3).trans rfl, (blk_cell (blk_alloc hk_.out _) 4).trans rfl⟩ (fun hHeld => ?_)
 clear hK K
 refine norm_ (a' := ?_) ?_ ?_
 rotate_left
 ·show Act.put _ (some 11) _ = _
  simp only [Act.put, List.setIfInBounds_toArray, List.set_cons_zero, List.set_cons_succ, i64_w]
  rfl
 refine one_ (i := 8) (N := some 12) #[true, true, true, true, true, true, true, true, true, false, false, false, false] rfl rfl (one_of HT_.out (by kernel_rfl)) (by decide) (fun K hK => ?_)
 refine Kd.R_append_step k47 (w0 := W2) b (by rfl) (.tmp 9) (.tmp 11) 39 47 (.agg #[.int .i64 0, .int .i64 0, .int .i64 0, .int .i64 0, .int .i64 0]) 40 rfl Tryd.underlying39 info47 rfl (by decide) (by omega) vc st.code ⟨x0, x1, x2, x3, x4⟩ [.int .i64 x0, .int .i64 x1, .int .i64 x2, .int .i64 x3, .int .i64 x4] (fun _ => True) (fun _ => False) rfl ?aX ?aP (fun _ hk => hk.elim) ?aF hp_.out.code (Below.refl _ _) hp_.out.size HL.out ?_
 (case aX => first | rfl | (show Value.slice _ _ _ = Value.slice _ _ _; simp))
 (case aP => exact k47_mkM _ _ _ _)
 (case aF => exact (fun _ _ => trivial))
 intro v1 W3 ho hb hg hat_
 have hc3 := am (blk_grown hp_.out.cells hg (Kd.R_ne hp_.out.code hp_.out.cells (by decide)))
 have hk3 := am (blk_grown hk_.out hg hne_.out)
 have hS3 := am (Kd.S_over' hp_.out.cols (Kd.R_typed hp_.out.code) (by decide) hg)
 have hm3 := am (hp_.out.map.kept hg (fun e => by have := Kd.R_base hp_.out.code gm e.symm; have := hp_.out.gmb; omega))
 have hs3 := am (Nat.le_trans hp_.out.size hb.size)
 have hC3 := am (hc_.out.trans (Chg.of_grown (S := InS w b gc gm) hg (fun k e => .inr (.inr ⟨Kd.R_base hp0.out.code k e, by obtain ⟨cs_, h_⟩ := Kd.R_typed hp0.out.code k e; exact ⟨cs_, 47, h_, .inl rfl⟩⟩))))
 have ho3 := am ho
 have hx3 := am (show hp_.out.ne = hp_.out.ne from rfl)
 clear hat_ hx3 ho hb hg
 obtain ⟨A1, n1, rfl⟩ := Kd.R_slice ho3.out
 refine hK.out _ _ ⟨(blk_cell hc3.out 1).trans rfl, (blk_cell hk3.out 0).trans rfl, (blk_cell hk3.out 1).trans rfl, (blk_cell hk3.out 2).trans rfl, (blk_cell hk3.out 3).trans rfl, (blk_cell hk3.out 4).trans rfl⟩ (fun hHeld => ?_)
 clear hK K
 refine norm_ (a' := ?_) ?_ ?_
 rotate_left
 ·show Act.put _ (some 12) _ = _
  simp only [Act.put, List.setIfInBounds_toArray, List.set_cons_zero, List.set_cons_succ, i64_w]
  rfl
 refine pure_ (i := 9) (N := some 13) (v := ?_) (a' := ?_) #[true, true, true, true, true, true, true, true, true, true, false, false, false] rfl rfl (any_of HT_.out (by kernel_rfl)) (fun _ _ _ h => h) (Or.inl ⟨by rfl, ?_⟩) ?_ ?_
 rotate_left
 ·intro w'
  go_simp
  with_reducible rfl
 rotate_left
 ·simp only [Act.put, List.setIfInBounds_toArray, List.set_cons_zero, List.set_cons_succ, i64_w]
  rfl
 refine pure_ (i := 10) (N := some 14) (v := ?_) (a' := ?_) #[true, true, true, true, true, true, true, true, true, true, true, false, false] rfl rfl (any_of HT_.out (by kernel_rfl)) (fun _ _ _ h => h) (Or.inl ⟨by rfl, ?_⟩) ?_ ?_
 rotate_left
 ·intro w'
  go_simp
  with_reducible rfl
 rotate_left
 ·simp only [Act.put, List.setIfInBounds_toArray, List.set_cons_zero, List.set_cons_succ, i64_w]
  rfl
 refine pure_ (i := 11) (N := some 15) (v := ?_) (a' := ?_) #[true, true, true, true, true, true, true, true, true, true, true, true, false] rfl rfl (any_of HT_.out (by kernel_rfl)) (fun _ _ _ h => h) (Or.inl ⟨by rfl, ?_⟩) ?_ ?_
 rotate_left
 ·intro w'
  go_simp
  with_reducible rfl
 rotate_left
 ·simp only [Act.put, List.setIfInBounds_toArray, List.set_cons_zero, List.set_cons_succ, i64_w]
  rfl
 have hs_ : W3.cell? ⟨gc, 1, none⟩ = some vc := (blk_cell hc3.out 1).trans rfl
 have hf_ := blk_frozen hc3.out 1
 refine last_ (i := 12) (N := none) #[true, true, true, true, true, true, true, true, true, true, true, true, true] rfl rfl (one_of HT_.out (by kernel_rfl)) (by decide) (fun K hK => ?_)
 refine skip_ (w1 := ?_) (by rfl) rfl ?_ ?_
 rotate_left
 ·go_simp
  rfl
 refine hK.out _ _ ?_
 clear hK K
 refine done_ (done_of HT_.out (by kernel_rfl)) ?_
 go_wp2
 go_end0
 refine ⟨rfl, ⟨_, _, _, CompP.put (w := W3) (vl := vl) (vc := vc) (st := st) ?_ ho3.out hS3.out hm3.out hp_.out.names hp_.out.len hp_.out.gcb hp_.out.gmb hs3.out hp_.out.ne (Chg.set_ (Chg.refl _ _) rfl)⟩, hC3.out.set_ (.inl rfl)⟩
 exact blk_put (cs := #[ts, vc, vl, .map (some gm)]) hc3.out 1 _ (by simp only [List.length_append, List.length_singleton]; rfl)
end Go.Proofs.YtbhpjpeknooppaaDoor.M
namespace Go.Proofs.YtbhpjpeknooppaaDoor.M
open Go.RowKit Go.Proofs.YtbhpjpeknooppaaDoorW.PrintWords Go.Proofs.YtbhpjpeknooppaaDoorW.PrintLast Go.Proofs.YtbhpjpeknooppaaDoorW.PrintMore
open Go.Proofs.YtbhpjpeknooppaaDoor.PCodeSpares
set_option linter.unusedVariables false
set_option linter.unusedSimpArgs false
open Go.WideMaps Go.Maps
theorem law9 : Keyed Tryd.prog 9 := string_keyed Tryd.underlying9
theorem zero3 (w : World) : (zeroValue 3).run Tryd.prog w = .ok (.int .i64 0) w := by kernel_rfl
theorem key9 {v : ByteArray} (h : v.size ≤ 9223372036854775807) : keyOf Tryd.prog 9 (.string v) = some (keyL v) := keyOf_string_mk Tryd.underlying9 h
theorem attr_is (T0 : Option Addr) (tc : Nat) (types : List S65) (k : Nat) (v : ByteArray) (w : World) (hr : Kd.C k65 w T0 types.length types) (hc : types.length ≤ tc) (hk : k < types.length) :
  Calls Tryd.prog 48 #[.agg #[.slice T0 types.length tc], .int .i64 (k : Int), .string v] w fun e w' => e = .returned (.int .i64 (attrO types (k : Int) v)) ∧ Below w.heap.size w w' := by
 obtain ⟨_, _, _, _, _, _, _, hC⟩ := at_T65 hr (k : Int) (by omega) (by omega)
 exact event_AttrOf.calls _ T0 tc types (k : Int) v _ w hr hc (attrO_f types (k : Int) v hC.2.1)
theorem colS_hit {types : List S65} {v : ByteArray} {st : CSt} {i : Nat} (h : idxN v st.names 0 = some i) : colS types v st = ((i : Int), st) := by
 unfold colS
 rw [h]
theorem colS_new {types : List S65} {v : ByteArray} {st : CSt} (h : idxN v st.names 0 = none) : colS types v st = ((st.names.length : Int), ⟨st.code, st.cols ++ [colOf types v], st.names ++ [v]⟩) := by
 unfold colS
 rw [h]
def ColPost (types : List S65) (v : ByteArray) (st : CSt) (w : World) (b gc gm : Nat) (ts : Value) (e : Ending) (w' : World) : Prop :=
 e = .returned (.int .i64 (colS types v st).1) ∧ CompSt w' b gc gm ts (colS types v st).2 ∧ Chg (InS w b gc gm) w w'
theorem lit_inj {H : Type} {c : Int} {i : Nat} (h : (DataW.lit (.int .i64 (i : Int)) : DataW H) = .lit (.int .i64 c)) : c = (i : Int) := by
 injection h with h
 injection h with _ h
 exact h.symm
def ColRel (types : List S65) (v : ByteArray) (w : World) (l i : Value) (w' : World) : Prop :=
 ∃ k : Nat, i = .int .i64 (k : Int) ∧ k ≤ types.length ∧ Aside0 ((Kd.int .i64).R 3 w' w.heap.size (fun _ => True) l ((colOf types v).take k)) ∧ Aside0 (Below w.heap.size w w')
set_option maxHeartbeats 4000000 in
set_option maxRecDepth 100000 in
theorem comp_col_hit (w : World) (b gc gm : Nat) (T0 : Option Addr) (tc : Nat) (types : List S65) (st : CSt) (v : ByteArray) (hst : CompSt w b gc gm (.slice T0 types.length tc) st) (hr : Kd.C k65 w T0 types.length types) (hc : types.length ≤ tc) (hv : v.size ≤ 9223372036854775807) (ht : types.length ≤ 4398046511104) (hl : (st.cols.length + 1) * 24 ≤ 140737488355328) (i : Nat) (hi : idxN v st.names 0 = some i) :
  Calls Tryd.prog 30 #[.pointer (some ⟨gc, 0, none⟩), .string v] w (ColPost types v st w b gc gm (.slice T0 types.length tc)) := by
 have hst0 := hst
 obtain ⟨vc, vl, D, hp⟩ := hst
 obtain ⟨hhas, hat0⟩ := (hp.names.2 v).2 i hi
 have HAT := am hat0
 have HH := am hhas
 have HS := am hst0
 have HI := am hi
 have HM := am hp.map
 have HK := am (key9 hv)
 have q3 : w.cell? ⟨gc, 3, none⟩ = some (.map (some gm)) := (blk_cell hp.cells 3).trans rfl
 clear hst0 hat0 hhas hp hr hc hl hi ht hv
 go_enter Tryd.func30, Tryd.ntmps30
 go_wp2_with (first | (at_lookup; refine wpList_lookup_own_ok_int _ rfl _ _ 79 rfl 9 3 .i64 law9 Tryd.underlying79 Tryd.underlying3 (zero3 _) gm st.names.length D rfl HM.out _ (keyL v) rfl HK.out ?_; intro c hat hwc_; obtain rfl := lit_inj ((HAT.out _).symm.trans hat); clear hat hwc_; rw [HH.out]))
 refine bodyPost_ret (v := .int .i64 (i : Int)) (by simp [results, Tryd.results30, go_sem, *]) rfl ⟨by rw [colS_hit HI.out], by rw [colS_hit HI.out]; exact HS.out, Chg.refl _ _⟩
theorem wfN {n : Nat} (h : n ≤ 4611686018427387904) : (Lit.int .i64 (n : Int)).wf = true := by
 have h2 : (n : Int) = wrap64 (n : Int) := (IntWalk.wrap64_in _ (by omega)).symm
 rw [h2]
 exact wrap64_wf _
set_option maxHeartbeats 8000000 in
set_option maxRecDepth 100000 in
theorem comp_col_new (w : World) (b gc gm : Nat) (T0 : Option Addr) (tc : Nat) (types : List S65) (st : CSt) (v : ByteArray) (hst : CompSt w b gc gm (.slice T0 types.length tc) st) (hr : Kd.C k65 w T0 types.length types) (hc : types.length ≤ tc) (hv : v.size ≤ 9223372036854775807) (ht : types.length ≤ 4398046511104) (hl : (st.cols.length + 1) * 24 ≤ 140737488355328) (hi : idxN v st.names 0 = none) :
  Calls Tryd.prog 30 #[.pointer (some ⟨gc, 0, none⟩), .string v] w (ColPost types v st w b gc gm (.slice T0 types.length tc)) := by
 obtain ⟨vc, vl, D, hp⟩ := hst
 obtain ⟨Al, cl, rfl⟩ := Kd.S_slice hp.cols
 have HH := am ((hp.names.2 v).1 hi)
 have HI := am hi
 have HM := am hp.map
 have HK := am (key9 hv)
 have HP0 := am hp
 have HR := am hr
 have HC := am hc
 have HL := am hl
 have HT := am ht
 have HZ := am hp.size
 have HSL := am (Kd.S_mono (Kd.S_bound hp.cols) (ok' := fun k => b ≤ k ∧ k < w.heap.size) (fun k hk => ⟨hk.2.1, hk.2.2.1⟩))
 have HN := am (show st.names.length ≤ 4611686018427387904 from by rw [hp.len]; omega)
 have q0 : w.cell? ⟨gc, 0, none⟩ = some (.slice T0 types.length tc) := (blk_cell hp.cells 0).trans rfl
 have q2 : w.cell? ⟨gc, 2, none⟩ = some (.slice Al st.cols.length cl) := (blk_cell hp.cells 2).trans rfl
 have q3 : w.cell? ⟨gc, 3, none⟩ = some (.map (some gm)) := (blk_cell hp.cells 3).trans rfl
 clear hp hr hc hl hi ht hv
 go_enter Tryd.func30, Tryd.ntmps30
 go_wp2_with (first | (at_lookup; refine wpList_lookup_own_ok_int _ rfl _ _ 79 rfl 9 3 .i64 law9 Tryd.underlying79 Tryd.underlying3 (zero3 _) gm st.names.length D rfl HM.out _ (keyL v) rfl HK.out ?_; intro c hat hwc_; clear hat hwc_; rw [HH.out]))
 go_loopw [7, 27] (fun l i w' => ColRel types v w l i w') (fun _ i _ => types.length - (intOf i).toNat)
 case atStart => exact ⟨0, rfl, Nat.zero_le _, ⟨Kd.R_nil _ _ _ _ _⟩, ⟨Below.refl _ _⟩⟩
 case round =>
  clear q0 q2 q3
  obtain ⟨k, rfl, hk, HO, HB⟩ := hrel
  have HKK := am hk
  clear hk
  have HP := am (HP0.out.chg HB.out)
  have q0 : wr.cell? ⟨gc, 0, none⟩ = some (.slice T0 types.length tc) := (blk_cell HP.out.cells 0).trans rfl
  have q1 : wr.cell? ⟨gc, 1, none⟩ = some vc := (blk_cell HP.out.cells 1).trans rfl
  have q2 : wr.cell? ⟨gc, 2, none⟩ = some (.slice Al st.cols.length cl) := (blk_cell HP.out.cells 2).trans rfl
  have q3 : wr.cell? ⟨gc, 3, none⟩ = some (.map (some gm)) := (blk_cell HP.out.cells 3).trans rfl
  by_cases hlt : k < types.length
  ·have eK : wrap64 ((k : Int) + 1) = (k : Int) + 1 := IntWalk.wrap64_in _ (by have := HT.out; omega)
   go_wp2_with (first | (go_at_call 48; refine (attr_is T0 tc types k v _ (Kd.C_below HR.out HB.out) HC.out hlt).mono ?_; rintro e W1 ⟨rfl, hb⟩; have HO1 := am (Kd.R_below HO.out hb); have HB1 := am (below_step HB.out hb); clear hb) | ((with_reducible refine gate_builtin (b := .append) (xs := #[.tmp 30, .tmp 38]) rfl ?_); at_builtin; refine Kd.R_append (Kd.int .i64) (w0 := w) w.heap.size rfl (.tmp 30) (.tmp 38) 48 3 (.int .i64 0) 8 rfl Tryd.underlying48 info3 rfl (by decide) (by omega) _ ((colOf types v).take k) (attrO types (k : Int) v) [.int .i64 (attrO types (k : Int) v)] (fun _ => True) (fun _ => False) rfl ?aX ?aP (fun _ hk => hk.elim) ?aF HO1.out HB1.out (below_size HB1.out) ?aL ?_; (case aX => first | rfl | (show Value.slice _ _ _ = Value.slice _ _ _; simp)); (case aP => exact rfl); (case aF => exact (fun _ _ => trivial)); (case aL => rw [List.length_take, colOf_length]; have := HT.out; omega); intro v5 W5 ho hb hg hat; have HO5 := am ho; have HB5 := am hb; clear ho hb hg hat))
   go_roundw
   case rel => first
    | exact ⟨k + 1, by first | rfl | (rw [eK]; rfl), hlt, ⟨by rw [colOf_take_succ types v k hlt]; exact HO5.out⟩, HB5⟩
    | (refine ⟨_, _, _, ?_, rfl, rfl, rfl⟩; exact ⟨k + 1, rfl, hlt, ⟨by rw [colOf_take_succ types v k hlt]; exact HO5.out⟩, HB5⟩)
   case measure => first | exact mu2_ hlt (Int.lt_succ _) | exact mu2_ hlt (by rw [eK]; exact Int.lt_succ _)
  have hk := HKK.out
  clear HKK
  obtain rfl : k = types.length := by omega
  have HO' := am (show (Kd.int .i64).R 3 wr w.heap.size (fun _ => True) u7 (colOf types v) from by have h_ := HO.out; rw [List.take_of_length_le (by rw [colOf_length]; exact Nat.le_refl _)] at h_; exact h_)
  clear HO
  have HO := HO'
  clear HO' hk hlt
  obtain ⟨Aq, cq, hlv⟩ := Kd.R_slice HO.out
  subst hlv
  have hx_ := am (show ∀ k, (.slice Aq (colOf types v).length cq : Value).ownBlock = some k → some k ≠ (.slice Al st.cols.length cl : Value).ownBlock from fun k hk e => by have := Kd.R_base HO.out k hk; have := Kd.R_lt (Kd.S_R HP0.out.cols) k e.symm; omega)
  have eD : decide ((types.length : Int) < (types.length : Int)) = false := decide_eq_false (by omega)
  go_wp2_with (first | (at_mapUpdate; refine wpList_mapUpdate_own _ rfl _ _ _ 79 rfl 9 3 law9 Tryd.underlying79 _ gm st.names.length D rfl HP.out.map (by unfold maxLen; have := HN.out; omega) _ _ _ rfl rfl HK.out _ [] (plainElem_int Tryd.underlying3 (wfN (HP.out.len ▸ HN.out))) ?_; intro w1 hown1 hg1; have M1 := am hown1; have C1 := am (blk_grown HP.out.cells hg1 (fun e => HP.out.ne (by injection e))); have D1 := am (R_chg (Kd.R_mono (Kd.R_bound HP.out.code) (ok' := fun k => b ≤ k) (fun k hk => hk.2.1)) (Chg.of_grown (S := fun k => k = gm) hg1 (fun k e => by injection e with e; exact e.symm)) (fun k hk e => by have := HP.out.gmb; omega)); have S1 := am (S_chg (Kd.S_below HSL.out HB.out) (Chg.of_grown (S := fun k => k = gm) hg1 (fun k e => by injection e with e; exact e.symm)) (fun k hk e => by have := HP.out.gmb; have := hk.1; omega)); have L1 := am (R_chg (Kd.R_mono (Kd.R_bound HO.out) (ok' := fun k => w.heap.size ≤ k) (fun k hk => hk.2.1)) (Chg.of_grown (S := fun k => k = gm) hg1 (fun k e => by injection e with e; exact e.symm)) (fun k hk e => by have := HP.out.gmb; have := HZ.out; omega)); have G1 := am ((Chg.of_below (S := InS w b gc gm) HB.out).trans (Chg.of_grown hg1 (fun k e => .inr (.inl (by injection e with e; exact e.symm))))); have Z1 := am (show b ≤ w1.heap.size from Nat.le_trans HP.out.size hg1.size); clear hown1 hg1; (try clear q0 q1 q2 q3); have q0 : w1.cell? ⟨gc, 0, none⟩ = some (.slice T0 types.length tc) := (blk_cell C1.out 0).trans rfl; have q1 : w1.cell? ⟨gc, 1, none⟩ = some vc := (blk_cell C1.out 1).trans rfl; have q2 : w1.cell? ⟨gc, 2, none⟩ = some (.slice Al st.cols.length cl) := (blk_cell C1.out 2).trans rfl; have q3 : w1.cell? ⟨gc, 3, none⟩ = some (.map (some gm)) := (blk_cell C1.out 3).trans rfl) | ((with_reducible refine gate_builtin (b := .append) (xs := #[.tmp 58, .tmp 60]) rfl ?_); at_builtin; refine Kd.S_append (Kd.slice 3 (Kd.int .i64)) (w0 := w1) b rfl (.tmp 58) (.tmp 60) 40 48 (.slice none 0 0) 24 rfl Tryd.underlying40 info48 rfl (by decide) (by omega) (.slice Al st.cols.length cl) st.cols (colOf types v) [(.slice Aq (colOf types v).length cq : Value)] (fun _ => True) (fun k_ => some k_ = (.slice Aq (colOf types v).length cq : Value).ownBlock) rfl ?aX ?aP ?aK ?aF ?aO (Below.refl _ _) Z1.out HL.out ?_; (case aX => first | rfl | (show Value.slice _ _ _ = Value.slice _ _ _; simp)); (case aP => exact Kd.M_row (Kd.R_tight rfl (Kd.R_lower L1.out HZ.out))); (case aK => exact (fun k hk => ⟨trivial, fun e => hx_.out k hk.symm e⟩)); (case aF => exact (fun _ _ => trivial)); (case aO => exact (Kd.S_mono S1.out (fun k hk => ⟨trivial, fun e => by have h1_ := Kd.R_base L1.out k e.symm; exact absurd h1_ (Nat.not_le_of_lt hk.2)⟩))); intro v2 w2 ho hb2 hg2 hat2; obtain ⟨A2, c2, rfl⟩ := Kd.S_slice ho; have SS := am ho; have C2 := am (blk_grown C1.out hg2 (Kd.S_ne S1.out C1.out (by decide))); have D2 := am (Kd.R_over' D1.out (Kd.S_typed S1.out) (by decide) hg2); have M2 := am (M1.out.kept hg2 (fun e => by have := Kd.R_base (Kd.S_R S1.out) gm e.symm; have := HP.out.gmb; omega)); have G2 := am (G1.out.trans (Chg.of_grown hg2 (fun k e => .inr (.inr ⟨Kd.R_base (Kd.S_R HP0.out.cols) k e, by obtain ⟨cs_, h_⟩ := Kd.S_typed HP0.out.cols k e; exact ⟨cs_, 48, h_, .inr rfl⟩⟩)))); have Z2 := am (Nat.le_trans Z1.out hb2.size); clear ho hb2 hg2 hat2 q0 q1 q2 q3; have q0 : w2.cell? ⟨gc, 0, none⟩ = some (.slice T0 types.length tc) := (blk_cell C2.out 0).trans rfl; have q2 : w2.cell? ⟨gc, 2, none⟩ = some (.slice Al st.cols.length cl) := (blk_cell C2.out 2).trans rfl; have f2 := blk_frozen C2.out 2))
  have hW : ∀ w9 : World, w9.heap[gc]? = some (.cells #[.slice T0 types.length tc, vc, .slice A2 (st.cols ++ [colOf types v]).length c2, .map (some gm)] 81 (0, 0)) → Chg (fun k => k = gc) w2 w9 → CompSt w9 b gc gm (.slice T0 types.length tc) (colS types v st).2 := fun w9 hc9 hg9 => by
   rw [colS_new HI.out]
   exact ⟨_, _, _, CompP.put (vc := vc) (vl := vc) (st := st) (w := w2) (st' := ⟨st.code, st.cols ++ [colOf types v], st.names ++ [v]⟩) hc9 (Kd.R_mono D2.out (fun _ _ => trivial)) SS.out (by rw [List.length_append, List.length_singleton]; exact M2.out) (by rw [← HP.out.len]; exact HP.out.names.put v HI.out) (by simp only [List.length_append, List.length_singleton, HP.out.len]) HP.out.gcb HP.out.gmb Z2.out HP.out.ne hg9⟩
  refine bodyPost_ret (v := .int .i64 (st.cols.length : Int)) (by simp [results, Tryd.results30, go_sem, *]) rfl ⟨by rw [colS_new HI.out, ← HP.out.len], hW _ (blk_put (cs := #[.slice T0 types.length tc, vc, .slice Al st.cols.length cl, .map (some gm)]) C2.out 2 _ (by simp only [List.length_append, List.length_singleton]; rfl)) (Chg.set_ (Chg.refl _ _) rfl), G2.out.set_ (.inl rfl)⟩
theorem comp_col (w : World) (b gc gm : Nat) (T0 : Option Addr) (tc : Nat) (types : List S65) (st : CSt) (v : ByteArray) (hst : CompSt w b gc gm (.slice T0 types.length tc) st) (hr : Kd.C k65 w T0 types.length types) (hc : types.length ≤ tc) (hv : v.size ≤ 9223372036854775807) (ht : types.length ≤ 4398046511104) (hl : (st.cols.length + 1) * 24 ≤ 140737488355328) : Calls Tryd.prog 30 #[.pointer (some ⟨gc, 0, none⟩), .string v] w (ColPost types v st w b gc gm (.slice T0 types.length tc)) := by
 cases hi : idxN v st.names 0 with
 | some i => exact comp_col_hit w b gc gm T0 tc types st v hst hr hc hv ht hl i hi
 | none => exact comp_col_new w b gc gm T0 tc types st v hst hr hc hv ht hl hi
end Go.Proofs.YtbhpjpeknooppaaDoor.M
namespace Go.Proofs.YtbhpjpeknooppaaDoor.M
open Go.RowKit Go.Proofs.YtbhpjpeknooppaaDoorW.PrintWords Go.Proofs.YtbhpjpeknooppaaDoorW.PrintLast Go.Proofs.YtbhpjpeknooppaaDoorW.PrintMore
open Go.Proofs.YtbhpjpeknooppaaDoor.PCodeSpares
set_option linter.unusedVariables false
set_option linter.unusedSimpArgs false
def node_r.T : Bool × List (List Nat × List Nat) := (true, [([], []), ([], []), ([1], [1]), ([2], [2]), ([3], [3]), ([], []), ([], []), ([], []), ([7], [7]), ([6, 8], [6, 8]), ([4, 5, 9], [4, 5, 9]), ([0, 10, 9], [0, 10])])
def node_r.B : List Nat := [0, 0, 2, 6, 14, 0, 0, 0, 128, 448, 1022, 2047]
theorem node_r.tab : rtab .any (opsOf Tryd.f19 15) = node_r.T := by kernel_rfl
theorem node_r.bits : waitsOk node_r.T.2 node_r.B = true := by kernel_rfl
theorem colS_code (types : List S65) (v : ByteArray) (st : CSt) : (colS types v st).2.code = st.code := by
 unfold colS
 split <;> rfl
def NodePost (types : List S65) (n : S61) (item : Int) (st : CSt) (w : World) (b gc gm : Nat) (ts : Value) (e : Ending) (w' : World) : Prop :=
 e = .returned (.tuple #[]) ∧ CompSt w' b gc gm ts (nodeS types n item st) ∧ Chg (InS w b gc gm) w w'
theorem InS.mono {w w1 : World} {b gc gm : Nat} (hb : Below w.heap.size w w1) {w2 : World} (h : Chg (InS w1 b gc gm) w1 w2) : Chg (InS w b gc gm) w w2 := InS.trans (.of_below hb) h
theorem blk_ins {w w' : World} {b gc gm g t : Nat} {cs : Array Value} (h : w.heap[g]? = some (.cells cs t (0, 0))) (hc : Chg (InS w b gc gm) w w') (h1 : g ≠ gc) (h2 : g ≠ gm) (ht : t ≠ 47 ∧ t ≠ 48) : w'.heap[g]? = some (.cells cs t (0, 0)) := by
 refine blk_chg h hc ?_
 rintro (e | e | ⟨_, cells, q, hq, hq2⟩)
 ·exact h1 e
 ·exact h2 e
 rw [h] at hq
 cases hq
 rcases hq2 with rfl | rfl
 ·exact ht.1 rfl
 exact ht.2 rfl
set_option maxHeartbeats 8000000 in
set_option maxRecDepth 100000 in
theorem comp_node (w : World) (b gc gm : Nat) (T0 : Option Addr) (tc : Nat) (types : List S65) (st : CSt) (a0 a1 : Int) (a2 a3 : ByteArray) (a4 a5 item : Int) (hst : CompSt w b gc gm (.slice T0 types.length tc) st) (hr : Kd.C k65 w T0 types.length types) (hc : types.length ≤ tc) (hv : a3.size ≤ 9223372036854775807) (ht : types.length ≤ 4398046511104) (hl : (st.code.length + 1) * 40 ≤ 140737488355328) (hl2 : (st.cols.length + 1) * 24 ≤ 140737488355328) (h1 : 1 ≤ a0) (h26 : a0 ≤ 26) :
  Calls Tryd.prog 19 #[.pointer (some ⟨gc, 0, none⟩), .agg #[.int .i64 a0, .int .i64 a1, .string a2, .string a3, .int .i64 a4, .int .i64 a5], .int .i64 item] w (NodePost types ⟨a0, a1, a2, a3, a4, a5⟩ item st w b gc gm (.slice T0 types.length tc)) := by
 have HS0 := am hst
 have HR := am hr
 have HC := am hc
 have HV := am hv
 have HT := am ht
 have HL := am hl
 have HL2 := am hl2
 have HLC := am (show ((colS types a3 st).2.code.length + 1) * 40 ≤ 140737488355328 from by rw [colS_code]; exact hl)
 clear hst hr hc hv ht hl hl2
 by_cases h1e : a0 = 1
 ·have HN := am (show nodeS types ⟨a0, a1, a2, a3, a4, a5⟩ item st = layS st ⟨1, 0, 0, a1, 0⟩ from by rw [nodeS, if_pos (show a0 = 1 from by omega)])
  have e1 : (a0 == 1) = true := by simp; omega
  clear h1 h26 h1e
  go_enter Tryd.func19, Tryd.ntmps19
  go_wp2_with (first | ((with_reducible refine gate_dst (N := 4) rfl ?_); refine box_event ?hg (N := 4) ?hd (cs := #[.int .i64 a0, .int .i64 a1, .string a2, .string a3, .int .i64 a4, .int .i64 a5]) (t := 61) ?hr ?_; (case hd => rfl); (case hg => rfl); (case hr => first | (go_simp; done) | (go_simp; rfl)); intro g4 hg_ W1 hbox hb; have HS1 := am (HS0.out.chg hb); have HB := am hb; have BK_g4 := am hbox; have NG := am (show w.heap.size ≤ g4 from by omega); have c_g4 := cf6 BK_g4; clear hb hbox hg_) | (go_at_call 20; refine (comp_lay W1 b gc gm (.slice T0 types.length tc) st 1 0 0 a1 0 HS1.out HL.out).mono ?_; rintro e W3 ⟨rfl, hs_, hc_⟩; have HS9 := am hs_; have HC9 := am hc_; clear hs_ hc_))
  go_end0
  exact ⟨rfl, by rw [HN.out]; exact HS9.out, InS.mono HB.out HC9.out⟩
 have e1 : (a0 == 1) = false := by simp; omega
 by_cases h2 : a0 = 2
 ·have HN := am (show nodeS types ⟨a0, a1, a2, a3, a4, a5⟩ item st = layS st ⟨1, 0, 0, 1, 0⟩ from by rw [nodeS, if_neg (show ¬ a0 = 1 from by omega), if_pos (show a0 = 2 from by omega)])
  have e2 : (a0 == 2) = true := by simp; omega
  clear h1 h26 h2
  go_enter Tryd.func19, Tryd.ntmps19
  go_wp2_with (first | ((with_reducible refine gate_dst (N := 4) rfl ?_); refine box_event ?hg (N := 4) ?hd (cs := #[.int .i64 a0, .int .i64 a1, .string a2, .string a3, .int .i64 a4, .int .i64 a5]) (t := 61) ?hr ?_; (case hd => rfl); (case hg => rfl); (case hr => first | (go_simp; done) | (go_simp; rfl)); intro g4 hg_ W1 hbox hb; have HS1 := am (HS0.out.chg hb); have HB := am hb; have BK_g4 := am hbox; have NG := am (show w.heap.size ≤ g4 from by omega); have c_g4 := cf6 BK_g4; clear hb hbox hg_) | (go_at_call 20; refine (comp_lay W1 b gc gm (.slice T0 types.length tc) st 1 0 0 1 0 HS1.out HL.out).mono ?_; rintro e W3 ⟨rfl, hs_, hc_⟩; have HS9 := am hs_; have HC9 := am hc_; clear hs_ hc_))
  go_end0
  exact ⟨rfl, by rw [HN.out]; exact HS9.out, InS.mono HB.out HC9.out⟩
 have e2 : (a0 == 2) = false := by simp; omega
 by_cases h3 : a0 = 3
 ·have HN := am (show nodeS types ⟨a0, a1, a2, a3, a4, a5⟩ item st = layS st ⟨1, 0, 0, 0, 0⟩ from by rw [nodeS, if_neg (show ¬ a0 = 1 from by omega), if_neg (show ¬ a0 = 2 from by omega), if_pos (show a0 = 3 from by omega)])
  have e3 : (a0 == 3) = true := by simp; omega
  clear h1 h26 h3
  go_enter Tryd.func19, Tryd.ntmps19
  go_wp2_with (first | ((with_reducible refine gate_dst (N := 4) rfl ?_); refine box_event ?hg (N := 4) ?hd (cs := #[.int .i64 a0, .int .i64 a1, .string a2, .string a3, .int .i64 a4, .int .i64 a5]) (t := 61) ?hr ?_; (case hd => rfl); (case hg => rfl); (case hr => first | (go_simp; done) | (go_simp; rfl)); intro g4 hg_ W1 hbox hb; have HS1 := am (HS0.out.chg hb); have HB := am hb; have BK_g4 := am hbox; have NG := am (show w.heap.size ≤ g4 from by omega); have c_g4 := cf6 BK_g4; clear hb hbox hg_) | (go_at_call 20; refine (comp_lay W1 b gc gm (.slice T0 types.length tc) st 1 0 0 0 0 HS1.out HL.out).mono ?_; rintro e W3 ⟨rfl, hs_, hc_⟩; have HS9 := am hs_; have HC9 := am hc_; clear hs_ hc_))
  go_end0
  exact ⟨rfl, by rw [HN.out]; exact HS9.out, InS.mono HB.out HC9.out⟩
 have e3 : (a0 == 3) = false := by simp; omega
 by_cases h4 : a0 = 4
 ·have HN := am (show nodeS types ⟨a0, a1, a2, a3, a4, a5⟩ item st = layS (colS types a3 st).2 ⟨2, item, (colS types a3 st).1, 0, 0⟩ from by rw [nodeS, if_neg (show ¬ a0 = 1 from by omega), if_neg (show ¬ a0 = 2 from by omega), if_neg (show ¬ a0 = 3 from by omega), if_pos (show a0 = 4 from by omega)])
  have e4 : (a0 == 4) = true := by simp; omega
  clear h1 h26 h4
  go_enter Tryd.func19, Tryd.ntmps19
  go_wp2_with (first | ((with_reducible refine gate_dst (N := 4) rfl ?_); refine box_event ?hg (N := 4) ?hd (cs := #[.int .i64 a0, .int .i64 a1, .string a2, .string a3, .int .i64 a4, .int .i64 a5]) (t := 61) ?hr ?_; (case hd => rfl); (case hg => rfl); (case hr => first | (go_simp; done) | (go_simp; rfl)); intro g4 hg_ W1 hbox hb; have HS1 := am (HS0.out.chg hb); have HB := am hb; have BK_g4 := am hbox; have NG := am (show w.heap.size ≤ g4 from by omega); have c_g4 := cf6 BK_g4; clear hb hbox hg_) | (go_at_call 30; refine (comp_col W1 b gc gm T0 tc types st a3 HS1.out (Kd.C_below HR.out HB.out) HC.out HV.out HT.out HL2.out).mono ?_; rintro e W2 ⟨rfl, hs_, hc_⟩; have HS2 := am hs_; have HC2 := am hc_; clear hs_ hc_ c_g4) | (go_at_call 20; refine (comp_lay W2 b gc gm (.slice T0 types.length tc) (colS types a3 st).2 2 item (colS types a3 st).1 0 0 HS2.out HLC.out).mono ?_; rintro e W3 ⟨rfl, hs_, hc_⟩; have HS9 := am hs_; have HC9 := am hc_; clear hs_ hc_))
  go_end0
  exact ⟨rfl, by rw [HN.out]; exact HS9.out, InS.mono HB.out (InS.trans HC2.out HC9.out)⟩
 have e4 : (a0 == 4) = false := by simp; omega
 by_cases h11 : a0 = 11
 ·have HN := am (show nodeS types ⟨a0, a1, a2, a3, a4, a5⟩ item st = layS (colS types a3 st).2 ⟨3, item, (colS types a3 st).1, 0, 0⟩ from by rw [nodeS, if_neg (show ¬ a0 = 1 from by omega), if_neg (show ¬ a0 = 2 from by omega), if_neg (show ¬ a0 = 3 from by omega), if_neg (show ¬ a0 = 4 from by omega), if_pos (show a0 = 11 from by omega)])
  have e11 : (a0 == 11) = true := by simp; omega
  clear h1 h26 h11
  go_enter Tryd.func19, Tryd.ntmps19
  go_wp2_with (first | ((with_reducible refine gate_dst (N := 4) rfl ?_); refine box_event ?hg (N := 4) ?hd (cs := #[.int .i64 a0, .int .i64 a1, .string a2, .string a3, .int .i64 a4, .int .i64 a5]) (t := 61) ?hr ?_; (case hd => rfl); (case hg => rfl); (case hr => first | (go_simp; done) | (go_simp; rfl)); intro g4 hg_ W1 hbox hb; have HS1 := am (HS0.out.chg hb); have HB := am hb; have BK_g4 := am hbox; have NG := am (show w.heap.size ≤ g4 from by omega); have c_g4 := cf6 BK_g4; clear hb hbox hg_) | (go_at_call 30; refine (comp_col W1 b gc gm T0 tc types st a3 HS1.out (Kd.C_below HR.out HB.out) HC.out HV.out HT.out HL2.out).mono ?_; rintro e W2 ⟨rfl, hs_, hc_⟩; have HS2 := am hs_; have HC2 := am hc_; clear hs_ hc_ c_g4) | (go_at_call 20; refine (comp_lay W2 b gc gm (.slice T0 types.length tc) (colS types a3 st).2 3 item (colS types a3 st).1 0 0 HS2.out HLC.out).mono ?_; rintro e W3 ⟨rfl, hs_, hc_⟩; have HS9 := am hs_; have HC9 := am hc_; clear hs_ hc_))
  go_end0
  exact ⟨rfl, by rw [HN.out]; exact HS9.out, InS.mono HB.out (InS.trans HC2.out HC9.out)⟩
 have e11 : (a0 == 11) = false := by simp; omega
 by_cases h5 : a0 = 5
 ·have HN := am (show nodeS types ⟨a0, a1, a2, a3, a4, a5⟩ item st = layS st ⟨4, item, 0, 0, 0⟩ from by rw [nodeS, if_neg (show ¬ a0 = 1 from by omega), if_neg (show ¬ a0 = 2 from by omega), if_neg (show ¬ a0 = 3 from by omega), if_neg (show ¬ a0 = 4 from by omega), if_neg (show ¬ a0 = 11 from by omega), if_pos (show a0 = 5 from by omega)])
  have e5 : (a0 == 5) = true := by simp; omega
  clear h1 h26 h5
  go_enter Tryd.func19, Tryd.ntmps19
  go_wp2_with (first | ((with_reducible refine gate_dst (N := 4) rfl ?_); refine box_event ?hg (N := 4) ?hd (cs := #[.int .i64 a0, .int .i64 a1, .string a2, .string a3, .int .i64 a4, .int .i64 a5]) (t := 61) ?hr ?_; (case hd => rfl); (case hg => rfl); (case hr => first | (go_simp; done) | (go_simp; rfl)); intro g4 hg_ W1 hbox hb; have HS1 := am (HS0.out.chg hb); have HB := am hb; have BK_g4 := am hbox; have NG := am (show w.heap.size ≤ g4 from by omega); have c_g4 := cf6 BK_g4; clear hb hbox hg_) | (go_at_call 20; refine (comp_lay W1 b gc gm (.slice T0 types.length tc) st 4 item 0 0 0 HS1.out HL.out).mono ?_; rintro e W3 ⟨rfl, hs_, hc_⟩; have HS9 := am hs_; have HC9 := am hc_; clear hs_ hc_))
  go_end0
  exact ⟨rfl, by rw [HN.out]; exact HS9.out, InS.mono HB.out HC9.out⟩
 have e5 : (a0 == 5) = false := by simp; omega
 have h1_ := h1
 by_cases hlt : a0 < 11
 ·have HN := am (show nodeS types ⟨a0, a1, a2, a3, a4, a5⟩ item st = layS (colS types a3 st).2 ⟨a0 - 1, item, (colS types a3 st).1, 0, 0⟩ from by rw [nodeS, if_neg (show ¬ a0 = 1 from by omega), if_neg (show ¬ a0 = 2 from by omega), if_neg (show ¬ a0 = 3 from by omega), if_neg (show ¬ a0 = 4 from by omega), if_neg (show ¬ a0 = 11 from by omega), if_neg (show ¬ a0 = 5 from by omega), if_pos (show a0 < 11 from by omega)])
  have eL : decide (a0 < 11) = true := by simp; omega
  have n6 : 6 ≤ a0 := by omega
  have n11 : a0 < 11 := by omega
  clear h1 h26 h1_ h1e h2 h3 h4 h11 h5 hlt
  have eS : wrap64 (a0 - 6) = a0 - 6 := IntWalk.wrap64_in _ (by omega)
  have eS2 : wrap64 (5 + (a0 - 6)) = a0 - 1 := by rw [show 5 + (a0 - 6) = a0 - 1 by omega]; exact IntWalk.wrap64_in _ (by omega)
  go_enter Tryd.func19, Tryd.ntmps19
  go_wp2_with (first | ((with_reducible refine gate_dst (N := 4) rfl ?_); refine box_event ?hg (N := 4) ?hd (cs := #[.int .i64 a0, .int .i64 a1, .string a2, .string a3, .int .i64 a4, .int .i64 a5]) (t := 61) ?hr ?_; (case hd => rfl); (case hg => rfl); (case hr => first | (go_simp; done) | (go_simp; rfl)); intro g4 hg_ W1 hbox hb; have HS1 := am (HS0.out.chg hb); have HB := am hb; have BK_g4 := am hbox; have NG := am (show w.heap.size ≤ g4 from by omega); have c_g4 := cf6 BK_g4; clear hb hbox hg_))
  refine start_ (n := 12) (S := fun w' => w'.cell? ⟨g4, 0, none⟩ = some (.int .i64 a0) ∧ w'.cell? ⟨g4, 3, none⟩ = some (.string a3)) (ds := [11]) #[false, false, false, false, false, false, false, false, false, false, false, false] (by kernel_rfl) rfl rfl ⟨(blk_cell BK_g4.out 0).trans rfl, (blk_cell BK_g4.out 3).trans rfl⟩ (fun hHeld => ?_)
  refine with_tabW node_r.tab node_r.bits (fun HT_ HW_ => ?_)
  clear c_g4
  have HSd := am (HS1.out.chg (below_drew1 (Below.refl _ _)))
  have HBd := am (below_drew HB.out)
  have BKd := am (blk_drew BK_g4.out)
  clear HS1 HB BK_g4
  have NGc := am (show g4 ≠ gc from by obtain ⟨_, _, _, h_⟩ := HS0.out; have := h_.gcb; have := h_.size; have := NG.out; omega)
  have NGm := am (show g4 ≠ gm from by obtain ⟨_, _, _, h_⟩ := HS0.out; have := h_.gmb; have := h_.size; have := NG.out; omega)
  generalize W1.drew = W2 at hHeld HSd HBd BKd ⊢
  refine pure_ (i := 0) (N := some 72) (v := ?_) (a' := ?_) #[true, false, false, false, false, false, false, false, false, false, false, false] rfl rfl (any_of HT_.out (by kernel_rfl)) (fun _ _ _ h => h) (Or.inl ⟨by rfl, ?_⟩) ?_ ?_
  rotate_left
  ·intro w'
   go_simp
   with_reducible rfl
  rotate_left
  ·simp only [Act.put, List.setIfInBounds_toArray, List.set_cons_zero, List.set_cons_succ, i64_w]
   rfl
  refine pure_ (i := 1) (N := some 73) (v := ?_) (a' := ?_) #[true, true, false, false, false, false, false, false, false, false, false, false] rfl rfl (any_of HT_.out (by kernel_rfl)) (fun _ _ _ h => h) (Or.inl ⟨by rfl, ?_⟩) ?_ ?_
  rotate_left
  ·intro w'
   go_simp
   with_reducible rfl
  rotate_left
  ·simp only [Act.put, List.setIfInBounds_toArray, List.set_cons_zero, List.set_cons_succ, i64_w]
   rfl
  refine take_ (i := 2) (N := some 74) (v := ?_) (a' := ?_) #[true, true, true, false, false, false, false, false, false, false, false, false] rfl rfl (take_ofW HT_.out HW_.out (by kernel_rfl)) (fun _ _ _ h => h) (Or.inl ⟨by rfl, ?_⟩) hHeld ?_ ?_
  rotate_left
  ·rintro w' ⟨s0, s1⟩
   go_simp
   with_reducible rfl
  rotate_left
  ·simp only [Act.put, List.setIfInBounds_toArray, List.set_cons_zero, List.set_cons_succ, i64_w]
   rfl
  refine pure_ (i := 3) (N := some 75) (v := ?_) (a' := ?_) #[true, true, true, true, false, false, false, false, false, false, false, false] rfl rfl (any_of HT_.out (by kernel_rfl)) (fun _ _ _ h => h) (Or.inl ⟨by rfl, ?_⟩) ?_ ?_
  rotate_left
  ·intro w'
   go_simp
   with_reducible rfl
  rotate_left
  ·simp only [Act.put, List.setIfInBounds_toArray, List.set_cons_zero, List.set_cons_succ, i64_w]
   rfl
  refine pure_ (i := 4) (N := some 76) (v := ?_) (a' := ?_) #[true, true, true, true, true, false, false, false, false, false, false, false] rfl rfl (any_of HT_.out (by kernel_rfl)) (fun _ _ _ h => h) (Or.inl ⟨by rfl, ?_⟩) ?_ ?_
  rotate_left
  ·intro w'
   go_simp
   with_reducible rfl
  rotate_left
  ·simp only [Act.put, List.setIfInBounds_toArray, List.set_cons_zero, List.set_cons_succ, i64_w]
   rfl
  refine pure_ (i := 5) (N := some 77) (v := ?_) (a' := ?_) #[true, true, true, true, true, true, false, false, false, false, false, false] rfl rfl (any_of HT_.out (by kernel_rfl)) (fun _ _ _ h => h) (Or.inl ⟨by rfl, ?_⟩) ?_ ?_
  rotate_left
  ·intro w'
   go_simp
   with_reducible rfl
  rotate_left
  ·simp only [Act.put, List.setIfInBounds_toArray, List.set_cons_zero, List.set_cons_succ, i64_w]
   rfl
  refine pure_ (i := 6) (N := some 78) (v := ?_) (a' := ?_) #[true, true, true, true, true, true, true, false, false, false, false, false] rfl rfl (any_of HT_.out (by kernel_rfl)) (fun _ _ _ h => h) (Or.inl ⟨by rfl, ?_⟩) ?_ ?_
  rotate_left
  ·intro w'
   go_simp
   with_reducible rfl
  rotate_left
  ·simp only [Act.put, List.setIfInBounds_toArray, List.set_cons_zero, List.set_cons_succ, i64_w]
   rfl
  refine pure_ (i := 7) (N := some 79) (v := ?_) (a' := ?_) #[true, true, true, true, true, true, true, true, false, false, false, false] rfl rfl (any_of HT_.out (by kernel_rfl)) (fun _ _ _ h => h) (Or.inl ⟨by rfl, ?_⟩) ?_ ?_
  rotate_left
  ·intro w'
   go_simp
   with_reducible rfl
  rotate_left
  ·simp only [Act.put, List.setIfInBounds_toArray, List.set_cons_zero, List.set_cons_succ, i64_w]
   rfl
  refine take_ (i := 8) (N := some 80) (v := ?_) (a' := ?_) #[true, true, true, true, true, true, true, true, true, false, false, false] rfl rfl (take_ofW HT_.out HW_.out (by kernel_rfl)) (fun _ _ _ h => h) (Or.inl ⟨by rfl, ?_⟩) hHeld ?_ ?_
  rotate_left
  ·rintro w' ⟨s0, s1⟩
   go_simp
   with_reducible rfl
  rotate_left
  ·simp only [Act.put, List.setIfInBounds_toArray, List.set_cons_zero, List.set_cons_succ, i64_w]
   rfl
  refine one_ (i := 9) (N := some 81) #[true, true, true, true, true, true, true, true, true, true, false, false] rfl rfl (one_of HT_.out (by kernel_rfl)) (by decide) (fun K hK => ?_)
  refine goes_ Tryd.func30 (by kernel_rfl) rfl #[.pointer (some ⟨gc, 0, none⟩), .string a3] (by rfl) rfl rfl (by first | rfl | (simp [Act.eval]; done) | (go_simp; done) | simp [Act.eval, *]) ?_
  refine (comp_col W2 b gc gm T0 tc types st a3 HSd.out (Kd.C_below HR.out HBd.out) HC.out HV.out HT.out HL2.out).mono ?_
  rintro e W3 ⟨rfl, hs_, hc_⟩
  have HS3 := am hs_
  have HC3 := am hc_
  clear hs_ hc_
  have BK3 := am (blk_ins BKd.out HC3.out NGc.out NGm.out (by decide))
  refine ⟨_, rfl, ?_⟩
  refine hK.out _ _ ⟨(blk_cell BK3.out 0).trans rfl, (blk_cell BK3.out 3).trans rfl⟩ (fun hHeld => ?_)
  clear hK K
  refine norm_ (a' := ?_) ?_ ?_
  rotate_left
  ·show Act.put _ (some 81) _ = _
   simp only [Act.put, List.setIfInBounds_toArray, List.set_cons_zero, List.set_cons_succ, i64_w]
   rfl
  refine pure_ (i := 10) (N := some 82) (v := ?_) (a' := ?_) #[true, true, true, true, true, true, true, true, true, true, true, false] rfl rfl (any_of HT_.out (by kernel_rfl)) (fun _ _ _ h => h) (Or.inl ⟨by rfl, ?_⟩) ?_ ?_
  rotate_left
  ·intro w'
   go_simp
   with_reducible rfl
  rotate_left
  ·simp only [Act.put, List.setIfInBounds_toArray, List.set_cons_zero, List.set_cons_succ, i64_w]
   rfl
  refine last_ (i := 11) (N := some 83) #[true, true, true, true, true, true, true, true, true, true, true, true] rfl rfl (one_of HT_.out (by kernel_rfl)) (by decide) (fun K hK => ?_)
  refine goes_ Tryd.func20 (by kernel_rfl) rfl #[.pointer (some ⟨gc, 0, none⟩), .agg #[.int .i64 (a0 - 1), .int .i64 item, .int .i64 (colS types a3 st).1, .int .i64 0, .int .i64 0]] (by rfl) rfl rfl (by first | rfl | (simp [Act.eval]; done) | (go_simp; done) | simp [Act.eval, *]) ?_
  refine (comp_lay W3 b gc gm (.slice T0 types.length tc) (colS types a3 st).2 (a0 - 1) item (colS types a3 st).1 0 0 HS3.out HLC.out).mono ?_
  rintro e W4 ⟨rfl, hs_, hc_⟩
  have HS9 := am hs_
  have HC9 := am hc_
  clear hs_ hc_
  refine ⟨_, rfl, ?_⟩
  refine hK.out _ _ ?_
  clear hK K
  refine done_ (done_of HT_.out (by kernel_rfl)) ?_
  go_wp2
  go_end0
  exact ⟨rfl, by rw [HN.out]; exact HS9.out, InS.mono HBd.out (InS.trans HC3.out HC9.out)⟩
 have HN := am (show nodeS types ⟨a0, a1, a2, a3, a4, a5⟩ item st = layS st ⟨a0 - 2, 0, 0, 0, 0⟩ from by rw [nodeS, if_neg (show ¬ a0 = 1 from by omega), if_neg (show ¬ a0 = 2 from by omega), if_neg (show ¬ a0 = 3 from by omega), if_neg (show ¬ a0 = 4 from by omega), if_neg (show ¬ a0 = 11 from by omega), if_neg (show ¬ a0 = 5 from by omega), if_neg (show ¬ a0 < 11 from by omega)])
 have eL : decide (a0 < 11) = false := by simp; omega
 have n12 : 12 ≤ a0 := by omega
 have n26 : a0 ≤ 26 := h26
 clear h1 h26 h1_ h1e h2 h3 h4 h11 h5 hlt
 have eS2 : 10 + (a0 - 12) ≤ 24 := by omega
 go_enter Tryd.func19, Tryd.ntmps19
 go_wp2_with (first | ((with_reducible refine gate_dst (N := 4) rfl ?_); refine box_event ?hg (N := 4) ?hd (cs := #[.int .i64 a0, .int .i64 a1, .string a2, .string a3, .int .i64 a4, .int .i64 a5]) (t := 61) ?hr ?_; (case hd => rfl); (case hg => rfl); (case hr => first | (go_simp; done) | (go_simp; rfl)); intro g4 hg_ W1 hbox hb; have HS1 := am (HS0.out.chg hb); have HB := am hb; have BK_g4 := am hbox; have NG := am (show w.heap.size ≤ g4 from by omega); have c_g4 := cf6 BK_g4; clear hb hbox hg_) | (go_at_call 20; refine (comp_lay W1 b gc gm (.slice T0 types.length tc) st _ 0 0 0 0 HS1.out HL.out).mono ?_; rintro e W3 ⟨rfl, hs_, hc_⟩; have HS9 := am hs_; have HC9 := am hc_; clear hs_ hc_))
 go_end0
 exact ⟨rfl, by rw [HN.out, show a0 - 2 = 10 + (a0 - 12) from by omega]; exact HS9.out, InS.mono HB.out HC9.out⟩
end Go.Proofs.YtbhpjpeknooppaaDoor.M
namespace Go.Proofs.YtbhpjpeknooppaaDoor.M
open Go.RowKit Go.Proofs.YtbhpjpeknooppaaDoorW.PrintWords Go.Proofs.YtbhpjpeknooppaaDoorW.PrintLast Go.Proofs.YtbhpjpeknooppaaDoorW.PrintMore
open Go.Proofs.YtbhpjpeknooppaaDoor.PCodeSpares
set_option linter.unusedVariables false
def cB (l : List S61) : Nat := l.countP fun n => decide (14 ≤ n.f0)
def cL (l : List S61) : Nat := l.countP fun n => decide (n.f0 ≤ 11)
theorem cB_cons (n : S61) (l : List S61) : cB (n :: l) = cB l + if 14 ≤ n.f0 then 1 else 0 := by
 unfold cB
 rw [List.countP_cons]
 by_cases h : 14 ≤ n.f0 <;> simp [h]
theorem cL_cons (n : S61) (l : List S61) : cL (n :: l) = cL l + if n.f0 ≤ 11 then 1 else 0 := by
 unfold cL
 rw [List.countP_cons]
 by_cases h : n.f0 ≤ 11 <;> simp [h]
theorem treeL_cnt (t : List S61) : ∀ (d k : Nat) (op : List Int), t.length < d + k → k ≤ t.length → treeL t d k op = true →
  2 * cB (t.drop k) + 1 ≤ (t.length - k) + op.length ∧ 2 * cL (t.drop k) + op.length ≤ (t.length - k) + 1 := by
 intro d
 induction d with
 | zero => intro k op hd hk _; omega
 | succ d ih =>
  intro k op hd hk h
  by_cases hlt : k < t.length
  ·obtain ⟨d', he, hs⟩ := treeL_step (t := t) (d := d + 1) (k := k) (op := op) hlt hd
   obtain rfl : d = d' := by omega
   rw [hs] at h
   have hdr : t.drop k = rd_T61 t (k : Int) :: t.drop (k + 1) := by rw [rdT61_lt hlt]; exact List.drop_eq_getElem_cons hlt
   rw [hdr, cB_cons, cL_cons]
   generalize rd_T61 t (k : Int) = n at h ⊢
   by_cases c1 : opsV n.f0 < 0 ∨ (op.length : Int) < opsV n.f0
   ·rw [if_pos c1] at h
    cases h
   rw [if_neg c1] at h
   by_cases c2 : fieldsV n = false
   ·rw [if_pos c2] at h
    cases h
   rw [if_neg c2] at h
   by_cases c3 : n.f4 ≠ (if opsV n.f0 = 1 then op.getD (op.length - 1) 0 else if opsV n.f0 = 2 then op.getD (op.length - 2) 0 else -1)
   ·rw [if_pos c3] at h
    cases h
   rw [if_neg c3] at h
   by_cases c4 : n.f5 ≠ (if opsV n.f0 = 2 then op.getD (op.length - 1) 0 else -1)
   ·rw [if_pos c4] at h
    cases h
   rw [if_neg c4] at h
   obtain ⟨i1, i2⟩ := ih (k + 1) _ (by omega) (by omega) h
   simp only [List.length_append, List.length_take, List.length_singleton] at i1 i2
   rcases opsV_cases n.f0 with ⟨e, e2⟩ | ⟨e, e2⟩ | ⟨e, e2⟩ | ⟨e, e2⟩
   ·omega
   ·rw [e] at i1 i2
    rw [if_neg (by omega), if_pos (by omega)]
    simp only [Int.toNat_zero] at i1 i2
    omega
   ·rw [e] at i1 i2
    rw [if_neg (by omega), if_neg (by omega)]
    have : (1 : Int).toNat = 1 := rfl
    rw [this] at i1 i2
    omega
   rw [e] at i1 i2 c1
   rw [if_pos (by omega), if_neg (by omega)]
   have : (2 : Int).toNat = 2 := rfl
   rw [this] at i1 i2
   omega
  obtain rfl : k = t.length := by omega
  rw [treeL_end hlt] at h
  have h1 : op.length = 1 := of_decide_eq_true h
  rw [List.drop_length]
  simp only [cB, cL, List.countP_nil]
  omega
theorem tree_cnt {t : List S61} (h : treeV t = true) : 2 * cB t + 1 ≤ t.length ∧ 2 * cL t ≤ t.length + 1 := by
 obtain ⟨h1, h2⟩ := treeL_cnt t (t.length + 1) 0 [] (by omega) (by omega) h
 rw [List.drop_zero] at h1 h2
 simp only [List.length_nil] at h1 h2
 omega
def nz (l : List Int) : Nat := l.countP fun x => decide (x ≠ 0)
theorem nz_set (l : List Int) (i : Nat) (v : Int) : nz (l.set i v) ≤ nz l + 1 := by
 unfold nz
 induction l generalizing i with
 | nil => simp
 | cons x l ih =>
  cases i with
  | zero =>
   rw [List.set_cons_zero, List.countP_cons, List.countP_cons]
   split <;> omega
  | succ i =>
   rw [List.set_cons_succ, List.countP_cons, List.countP_cons]
   have := ih i
   omega
theorem beS_length (l : List Int) (n : S61) : (beS l n).length = l.length := by
 unfold beS
 split
 ·simp
 split
 ·simp
 rfl
theorem beK_length (t : List S61) : ∀ k, (beK t k).length = t.length
 | 0 => by simp [beK]
 | k + 1 => by rw [beK, beS_length, beK_length t k]
theorem nz_zero (n : Nat) : nz (List.replicate n (0 : Int)) = 0 := by
 unfold nz
 rw [List.countP_replicate]
 simp
theorem beK_nz (t : List S61) : ∀ k, k ≤ t.length → nz (beK t k) ≤ cB (t.take k)
 | 0, _ => by rw [beK, nz_zero]; exact Nat.zero_le _
 | k + 1, h => by
  have ih := beK_nz t k (by omega)
  have hlt : k < t.length := by omega
  rw [beK, List.take_succ_eq_append_getElem hlt, rdT61_lt hlt]
  have hc : cB (t.take k ++ [t[k]]) = cB (t.take k) + if 14 ≤ t[k].f0 then 1 else 0 := by
   unfold cB
   rw [List.countP_append, List.countP_singleton]
   by_cases h : 14 ≤ t[k].f0 <;> simp [h]
  rw [hc]
  unfold beS
  split
  ·rename_i h25
   have := nz_set (beK t k) t[k].f4.toNat 25
   rw [if_pos (by omega)]
   omega
  split
  ·rename_i h26
   have := nz_set (beK t k) t[k].f4.toNat 26
   rw [if_pos (by omega)]
   omega
  omega
theorem getD_set_ne {l : List Int} {i j : Nat} {v : Int} (h : i ≠ j) : (l.set i v).getD j 0 = l.getD j 0 := by
 rw [List.getD_eq_getElem?_getD, List.getD_eq_getElem?_getD, List.getElem?_set_ne h]
theorem getD_set_eq {l : List Int} {i : Nat} {v : Int} (h : i < l.length) : (l.set i v).getD i 0 = v := by
 rw [List.getD_eq_getElem?_getD, List.getElem?_set_self h]
 rfl
theorem beS_keep {l : List Int} {n : S61} {i : Nat} (h : l.getD i 0 = 25 ∨ l.getD i 0 = 26) : (beS l n).getD i 0 = 25 ∨ (beS l n).getD i 0 = 26 := by
 have hil : i < l.length := by
  refine Nat.lt_of_not_le fun hle => ?_
  rw [List.getD_eq_getElem?_getD, List.getElem?_eq_none hle] at h
  simp at h
 unfold beS
 split
 ·by_cases e : n.f4.toNat = i
  ·subst e
   rw [getD_set_eq hil]
   exact .inl rfl
  rw [getD_set_ne e]
  exact h
 split
 ·by_cases e : n.f4.toNat = i
  ·subst e
   rw [getD_set_eq hil]
   exact .inr rfl
  rw [getD_set_ne e]
  exact h
 exact h
theorem beK_keep {t : List S61} {i k : Nat} (h : (beK t k).getD i 0 = 25 ∨ (beK t k).getD i 0 = 26) : ∀ d, (beK t (k + d)).getD i 0 = 25 ∨ (beK t (k + d)).getD i 0 = 26
 | 0 => h
 | d + 1 => beS_keep (beK_keep h d)
theorem beK_op {t : List S61} {k : Nat} (hk : k < t.length) (hop : (rd_T61 t (k : Int)).f0 = 25 ∨ (rd_T61 t (k : Int)).f0 = 26) (hA : (rd_T61 t (k : Int)).f4.toNat < t.length) : (beK t t.length).getD (rd_T61 t (k : Int)).f4.toNat 0 = 25 ∨ (beK t t.length).getD (rd_T61 t (k : Int)).f4.toNat 0 = 26 := by
 have h1 : (beK t (k + 1)).getD (rd_T61 t (k : Int)).f4.toNat 0 = 25 ∨ (beK t (k + 1)).getD (rd_T61 t (k : Int)).f4.toNat 0 = 26 := by
  rw [beK]
  unfold beS
  rcases hop with h | h
  ·rw [if_pos h, getD_set_eq (by rw [beK_length]; exact hA)]
   exact .inl rfl
  rw [if_neg (by omega), if_pos h, getD_set_eq (by rw [beK_length]; exact hA)]
  exact .inr rfl
 have := beK_keep h1 (t.length - (k + 1))
 rwa [show k + 1 + (t.length - (k + 1)) = t.length by omega] at this
theorem nodeS_code (types : List S65) (n : S61) (item : Int) (st : CSt) : ∃ x, (nodeS types n item st).code = st.code ++ [x] := by
 unfold nodeS
 repeat' split
 all_goals (simp only [layS, colS_code]; exact ⟨_, rfl⟩)
theorem nodeS_clen (types : List S65) (n : S61) (item : Int) (st : CSt) : (nodeS types n item st).code.length = st.code.length + 1 := by
 obtain ⟨x, hx⟩ := nodeS_code types n item st
 rw [hx, List.length_append, List.length_singleton]
theorem colS_len (types : List S65) (v : ByteArray) (st : CSt) : st.cols.length ≤ (colS types v st).2.cols.length ∧ (colS types v st).2.cols.length ≤ st.cols.length + 1 := by
 unfold colS
 split
 ·exact ⟨Nat.le_refl _, Nat.le_succ _⟩
 simp only [List.length_append, List.length_singleton]
 omega
theorem nodeS_cols (types : List S65) (n : S61) (item : Int) (st : CSt) : (nodeS types n item st).cols.length ≤ st.cols.length + if n.f0 ≤ 11 then 1 else 0 := by
 have h := (colS_len types n.f3 st).2
 unfold nodeS
 repeat' split
 all_goals (simp only [layS]; omega)
theorem toS_len (n : S61) (jumps : List Int) (st : CSt) : (toS n jumps st).code.length = st.code.length ∧ (toS n jumps st).cols = st.cols := by
 unfold toS
 split
 ·simp
 exact ⟨rfl, rfl⟩
theorem endS_len (be : List Int) (k : Nat) (st : CSt) (jumps : List Int) : (endS be k st jumps).1.code.length = st.code.length + (if be.getD k 0 = 0 then 0 else 1) ∧ (endS be k st jumps).1.cols = st.cols ∧ (endS be k st jumps).2.length = jumps.length := by
 unfold endS
 split
 ·exact ⟨rfl, rfl, rfl⟩
 simp [layS]
theorem nz_take_succ (l : List Int) (k : Nat) (h : k < l.length) : nz (l.take (k + 1)) = nz (l.take k) + if l.getD k 0 = 0 then 0 else 1 := by
 rw [List.take_succ_eq_append_getElem h]
 unfold nz
 rw [List.countP_append, List.countP_singleton, List.getD_eq_getElem?_getD, List.getElem?_eq_getElem h]
 simp only [Option.getD_some]
 by_cases h0 : l[k] = 0 <;> simp [h0]
theorem nz_take_le (l : List Int) (k : Nat) : nz (l.take k) ≤ nz l := by
 unfold nz
 exact List.Sublist.countP_le (List.take_sublist k l)
theorem cL_take_succ (t : List S61) (k : Nat) (h : k < t.length) : cL (t.take (k + 1)) = cL (t.take k) + if (rd_T61 t (k : Int)).f0 ≤ 11 then 1 else 0 := by
 rw [List.take_succ_eq_append_getElem h, rdT61_lt h]
 unfold cL
 rw [List.countP_append, List.countP_singleton]
 by_cases h0 : t[k].f0 ≤ 11 <;> simp [h0]
theorem cpK_len (types : List S65) (items : List Int) (t : List S61) : ∀ k, k ≤ t.length →
  (cpK types items t k).1.code.length = k + nz ((beK t t.length).take k) ∧ (cpK types items t k).1.cols.length ≤ cL (t.take k) ∧ (cpK types items t k).2.length = t.length
 | 0, _ => by
  rw [cpK]
  exact ⟨by simp [nz], by simp, by simp⟩
 | k + 1, h => by
  obtain ⟨i1, i2, i3⟩ := cpK_len types items t k (by omega)
  have hlt : k < t.length := by omega
  rw [cpK]
  obtain ⟨e1, e2, e3⟩ := endS_len (beK t t.length) k (toS (rd_T61 t (k : Int)) (cpK types items t k).2 (nodeS types (rd_T61 t (k : Int)) (items.getD k 0) (cpK types items t k).1)) (cpK types items t k).2
  obtain ⟨f1, f2⟩ := toS_len (rd_T61 t (k : Int)) (cpK types items t k).2 (nodeS types (rd_T61 t (k : Int)) (items.getD k 0) (cpK types items t k).1)
  rw [e1, e2, e3, f1, f2, nodeS_clen, i1, nz_take_succ _ _ (by rw [beK_length]; exact hlt), cL_take_succ t k hlt, i3]
  have := nodeS_cols types (rd_T61 t (k : Int)) (items.getD k 0) (cpK types items t k).1
  refine ⟨by omega, by omega, rfl⟩
theorem cL_take_le (t : List S61) (k : Nat) : cL (t.take k) ≤ cL t := by
 unfold cL
 exact List.Sublist.countP_le (List.take_sublist k t)
theorem cB_take_le (t : List S61) (k : Nat) : cB (t.take k) ≤ cB t := by
 unfold cB
 exact List.Sublist.countP_le (List.take_sublist k t)
theorem cpK_bound {types : List S65} {items : List Int} {t : List S61} (ht : treeV t = true) {k : Nat} (hk : k ≤ t.length) : 2 * (cpK types items t k).1.code.length ≤ 2 * k + t.length ∧ 2 * (cpK types items t k).1.cols.length ≤ t.length + 1 := by
 obtain ⟨i1, i2, _⟩ := cpK_len types items t k hk
 obtain ⟨c1, c2⟩ := tree_cnt ht
 have h1 := nz_take_le (beK t t.length) k
 have h2 := beK_nz t t.length (Nat.le_refl _)
 have h3 := cB_take_le t t.length
 have h4 := cL_take_le t k
 omega
theorem cpK_jump {types : List S65} {items : List Int} {t : List S61} : ∀ k, k ≤ t.length → ∀ i, i < k → (beK t t.length).getD i 0 ≠ 0 → 0 ≤ (cpK types items t k).2.getD i 0 ∧ (cpK types items t k).2.getD i 0 < ((cpK types items t k).1.code.length : Int)
 | 0, _, i, hi, _ => by omega
 | k + 1, h, i, hi, hb => by
  have hlt : k < t.length := by omega
  have hl := (cpK_len types items t (k + 1) h).1
  have hl0 := (cpK_len types items t k (by omega)).1
  have hl2 := (cpK_len types items t k (by omega)).2.2
  have hn := nz_take_succ (beK t t.length) k (by rw [beK_length]; exact hlt)
  rw [cpK] at hl ⊢
  unfold endS at hl ⊢
  by_cases h0 : (beK t t.length).getD k 0 = 0
  ·rw [if_pos h0] at hl ⊢
   have hik : i ≠ k := fun e => hb (e ▸ h0)
   have := cpK_jump (types := types) (items := items) k (by omega) i (by omega) hb
   dsimp only at hl ⊢
   omega
  rw [if_neg h0] at hl hn ⊢
  dsimp only at hl ⊢
  by_cases hik : i = k
  ·subst hik
   rw [getD_set_eq (by rw [hl2]; exact hlt)]
   have e1 := (toS_len (rd_T61 t (i : Int)) (cpK types items t i).2 (nodeS types (rd_T61 t (i : Int)) (items.getD i 0) (cpK types items t i).1)).1
   simp only [layS, List.length_append, List.length_singleton] at hl ⊢
   omega
  rw [getD_set_ne (fun e => hik e.symm)]
  have := cpK_jump (types := types) (items := items) k (by omega) i (by omega) hb
  omega
theorem treeL_fields (t : List S61) : ∀ (d k : Nat) (op : List Int), t.length < d + k → treeL t d k op = true → ∀ i, k ≤ i → i < t.length → fieldsV (rd_T61 t (i : Int)) = true := by
 intro d
 induction d with
 | zero => intro k op hd _ i h1 h2; omega
 | succ d ih =>
  intro k op hd h i h1 h2
  obtain ⟨d', he, hs⟩ := treeL_step (t := t) (d := d + 1) (k := k) (op := op) (by omega) hd
  obtain rfl : d = d' := by omega
  rw [hs] at h
  by_cases c1 : opsV (rd_T61 t (k : Int)).f0 < 0 ∨ (op.length : Int) < opsV (rd_T61 t (k : Int)).f0
  ·rw [if_pos c1] at h
   cases h
  rw [if_neg c1] at h
  by_cases hf : fieldsV (rd_T61 t (k : Int)) = false
  ·rw [if_pos hf] at h
   cases h
  rw [if_neg hf] at h
  by_cases c3 : (rd_T61 t (k : Int)).f4 ≠ (if opsV (rd_T61 t (k : Int)).f0 = 1 then op.getD (op.length - 1) 0 else if opsV (rd_T61 t (k : Int)).f0 = 2 then op.getD (op.length - 2) 0 else -1)
  ·rw [if_pos c3] at h
   cases h
  rw [if_neg c3] at h
  by_cases c4 : (rd_T61 t (k : Int)).f5 ≠ (if opsV (rd_T61 t (k : Int)).f0 = 2 then op.getD (op.length - 1) 0 else -1)
  ·rw [if_pos c4] at h
   cases h
  rw [if_neg c4] at h
  by_cases hik : i = k
  ·subst hik
   simpa using hf
  exact ih (k + 1) _ (by omega) h i (by omega) h2
theorem nameV_size {s : ByteArray} (h : nameV s = true) : s.size ≤ 16 := by
 unfold nameV at h
 split at h
 ·cases h
 rename_i hn
 omega
theorem treeV_f3 {t : List S61} (h : treeV t = true) {k : Nat} (hk : k < t.length) : (rd_T61 t (k : Int)).f3.size ≤ 9223372036854775807 := by
 have hf := treeL_fields t _ 0 [] (by omega) h k (Nat.zero_le _) hk
 unfold fieldsV at hf
 split at hf
 ·cases hf
 split at hf
 ·cases hf
 split at hf
 ·have := nameV_size hf
  omega
 have h0 : (rd_T61 t (k : Int)).f3.toList = [] := by simpa using hf
 have h1 : (rd_T61 t (k : Int)).f3.size = 0 := by
  rw [ByteArray.toList_eq] at h0
  show (rd_T61 t (k : Int)).f3.data.size = 0
  rw [← Array.length_toList, h0]
  rfl
 omega
end Go.Proofs.YtbhpjpeknooppaaDoor.M
namespace Go.Proofs.YtbhpjpeknooppaaDoor.M
open Go.RowKit Go.Proofs.YtbhpjpeknooppaaDoorW.PrintWords Go.Proofs.YtbhpjpeknooppaaDoorW.PrintLast Go.Proofs.YtbhpjpeknooppaaDoorW.PrintMore
open Go.Proofs.YtbhpjpeknooppaaDoor.PCodeSpares
set_option linter.unusedVariables false
theorem colS_all {types : List S65} {v : ByteArray} {st : CSt} (h : ∀ l ∈ st.cols, l.length = types.length) : ∀ l ∈ (colS types v st).2.cols, l.length = types.length := by
 unfold colS
 split
 ·exact h
 intro l hl
 rcases List.mem_append.1 hl with hl | hl
 ·exact h l hl
 rw [List.mem_singleton.1 hl, colOf_length]
theorem nodeS_all {types : List S65} {n : S61} {item : Int} {st : CSt} (h : ∀ l ∈ st.cols, l.length = types.length) : ∀ l ∈ (nodeS types n item st).cols, l.length = types.length := by
 have h2 := colS_all (v := n.f3) h
 unfold nodeS
 repeat' split
 all_goals first | exact h | exact h2
theorem cpK_all (types : List S65) (items : List Int) (t : List S61) : ∀ k, ∀ l ∈ (cpK types items t k).1.cols, l.length = types.length
 | 0 => by
  rw [cpK]
  exact fun _ hl => absurd hl List.not_mem_nil
 | k + 1 => by
  rw [cpK, (endS_len _ _ _ _).2.1, (toS_len _ _ _).2]
  exact nodeS_all (cpK_all types items t k)
theorem comp_all (types : List S65) (its : List S67) (t : List S61) : ∀ l ∈ (compV types its t).2, l.length = types.length := by
 unfold compV
 split
 ·exact cpK_all _ _ _ _
 exact fun _ hl => absurd hl List.not_mem_nil
theorem comp_bound (types : List S65) (its : List S67) (t : List S61) : 2 * (compV types its t).1.length ≤ 3 * t.length ∧ 2 * (compV types its t).2.length ≤ t.length + 1 := by
 unfold compV
 split
 ·rename_i h
  have hb := cpK_bound (types := types) (items := itemsV its t) (show treeV t = true from by unfold rnbV at h; simp only [Bool.and_eq_true] at h; exact h.1) (Nat.le_refl t.length)
  exact ⟨(by have := hb.1; omega : 2 * (cpK types (itemsV its t) t t.length).1.code.length ≤ 3 * t.length), hb.2⟩
 exact ⟨by simp, by simp⟩
end Go.Proofs.YtbhpjpeknooppaaDoor.M
