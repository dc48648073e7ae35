/- The contract of show.Tree. Conditions: the nodes are read; the keywords read as laid. -/
import Derived.Test.YtbhpjpeknooppaaDoorK08
import Derived.BigQuiet
import Derived.Deep.QuietTactic
import Derived.IntWalk
import Derived.LoopTactic
import Derived.WalkMore
namespace Go.Proofs.YtbhpjpeknooppaaDoor.M
open Go.RowKit Go.Proofs.YtbhpjpeknooppaaDoorW.PrintWords Go.Proofs.YtbhpjpeknooppaaDoorW.PrintLast Go.Proofs.YtbhpjpeknooppaaDoorW.PrintMore
open Go.Proofs.YtbhpjpeknooppaaDoor.PCodeSpares
set_option linter.unusedVariables false
def opsV (o : Int) : Int := if 1 ≤ o ∧ o ≤ 11 then 0 else if o = 12 ∨ o = 13 then 1 else if 14 ≤ o ∧ o ≤ 26 then 2 else -1
theorem opsV_f (o : Int) : show_operands.f 9 o = some (opsV o) := by
 unfold show_operands.f opsV
 by_cases h1 : 1 ≤ o
 ·by_cases h11 : o ≤ 11
  ·simp [show_operands.j0, h1, h11]
  by_cases h12 : o = 12
  ·subst h12; simp [show_operands.j0, show_operands.j1]
  by_cases h13 : o = 13
  ·subst h13; simp [show_operands.j0, show_operands.j1]
  by_cases h14 : 14 ≤ o
  ·by_cases h26 : o ≤ 26
   ·simp [show_operands.j0, show_operands.j1, h1, h11, h12, h13, h14, h26]
   simp [show_operands.j0, show_operands.j1, h1, h11, h12, h13, h14, h26]
  simp [show_operands.j0, show_operands.j1, h1, h11, h12, h13, h14]
 have h12 : o ≠ 12 := by omega
 have h13 : o ≠ 13 := by omega
 have h14 : ¬ 14 ≤ o := by omega
 simp [show_operands.j0, show_operands.j1, h1, h12, h13, h14]
def treeL (t : List S61) : Nat → Nat → List Int → Bool
 | 0, _, op => decide (op.length = 1)
 | d + 1, k, op => if k < t.length then
   let n := rd_T61 t (k : Int)
   let c := opsV n.f0
   if c < 0 ∨ (op.length : Int) < c then false
   else if fieldsV n = false then false
   else if n.f4 ≠ (if c = 1 then op.getD (op.length - 1) 0 else if c = 2 then op.getD (op.length - 2) 0 else -1) then false
   else if n.f5 ≠ (if c = 2 then op.getD (op.length - 1) 0 else -1) then false
   else treeL t d (k + 1) (op.take (op.length - c.toNat) ++ [(k : Int)])
  else decide (op.length = 1)
def treeV (t : List S61) : Bool := treeL t (t.length + 1) 0 []
theorem treeL_step {t : List S61} {d k : Nat} {op : List Int} (h : k < t.length) (hd : t.length < d + k) : ∃ d', d = d' + 1 ∧ treeL t d k op = (
   if opsV (rd_T61 t (k : Int)).f0 < 0 ∨ (op.length : Int) < opsV (rd_T61 t (k : Int)).f0 then false
   else if fieldsV (rd_T61 t (k : Int)) = false then false
   else if (rd_T61 t (k : Int)).f4 ≠ (if opsV (rd_T61 t (k : Int)).f0 = 1 then op.getD (op.length - 1) 0 else if opsV (rd_T61 t (k : Int)).f0 = 2 then op.getD (op.length - 2) 0 else -1) then false
   else if (rd_T61 t (k : Int)).f5 ≠ (if opsV (rd_T61 t (k : Int)).f0 = 2 then op.getD (op.length - 1) 0 else -1) then false
   else treeL t d' (k + 1) (op.take (op.length - (opsV (rd_T61 t (k : Int)).f0).toNat) ++ [(k : Int)])) := by
 obtain ⟨d', rfl⟩ : ∃ d', d = d' + 1 := ⟨d - 1, by omega⟩
 exact ⟨d', rfl, by rw [treeL, if_pos h]⟩
theorem treeL_end {t : List S61} {d k : Nat} {op : List Int} (h : ¬ k < t.length) : treeL t d k op = decide (op.length = 1) := by
 cases d with
 | zero => rfl
 | succ d => rw [treeL, if_neg h]
theorem opsV_cases (o : Int) : (opsV o = -1 ∧ ¬ (1 ≤ o ∧ o ≤ 26)) ∨ (opsV o = 0 ∧ 1 ≤ o ∧ o ≤ 11) ∨ (opsV o = 1 ∧ (o = 12 ∨ o = 13)) ∨ (opsV o = 2 ∧ 14 ≤ o ∧ o ≤ 26) := by
 unfold opsV
 split
 ·exact .inr (.inl ⟨rfl, by omega⟩)
 split
 ·exact .inr (.inr (.inl ⟨rfl, by omega⟩))
 split
 ·exact .inr (.inr (.inr ⟨rfl, by omega⟩))
 exact .inl ⟨rfl, by omega⟩
def nodeOk (n : S61) (i : Nat) : Prop := (1 ≤ n.f0 ∧ n.f0 ≤ 26) ∧ (12 ≤ n.f0 → 0 ≤ n.f4 ∧ n.f4 < i) ∧ (14 ≤ n.f0 → 0 ≤ n.f5 ∧ n.f5 < i) ∧ (n.f0 ≤ 13 → n.f5 = -1)
theorem getD_mem_ {op : List Int} {j : Nat} (h : j < op.length) : op.getD j 0 ∈ op := by
 rw [List.getD_eq_getElem?_getD, List.getElem?_eq_getElem h]
 exact List.getElem_mem h
theorem treeL_ok (t : List S61) : ∀ (d k : Nat) (op : List Int), t.length < d + k → (∀ x ∈ op, 0 ≤ x ∧ x < k) → treeL t d k op = true → ∀ i, k ≤ i → i < t.length → nodeOk (rd_T61 t (i : Int)) i := by
 intro d
 induction d with
 | zero => intro k op hd _ _ i h1 h2; omega
 | succ d ih =>
  intro k op hd hop h i h1 h2
  obtain ⟨d', he, hs⟩ := treeL_step (t := t) (d := d + 1) (k := k) (op := op) (by omega) hd
  obtain rfl : d = d' := by omega
  rw [hs] at h
  by_cases c1 : opsV (rd_T61 t (k : Int)).f0 < 0 ∨ (op.length : Int) < opsV (rd_T61 t (k : Int)).f0
  ·rw [if_pos c1] at h
   cases h
  rw [if_neg c1] at h
  by_cases c2 : fieldsV (rd_T61 t (k : Int)) = false
  ·rw [if_pos c2] at h
   cases h
  rw [if_neg c2] at h
  by_cases c3 : (rd_T61 t (k : Int)).f4 ≠ (if opsV (rd_T61 t (k : Int)).f0 = 1 then op.getD (op.length - 1) 0 else if opsV (rd_T61 t (k : Int)).f0 = 2 then op.getD (op.length - 2) 0 else -1)
  ·rw [if_pos c3] at h
   cases h
  rw [if_neg c3] at h
  by_cases c4 : (rd_T61 t (k : Int)).f5 ≠ (if opsV (rd_T61 t (k : Int)).f0 = 2 then op.getD (op.length - 1) 0 else -1)
  ·rw [if_pos c4] at h
   cases h
  rw [if_neg c4] at h
  by_cases hik : i = k
  ·subst hik
   have c3 := Classical.not_not.1 c3
   have c4 := Classical.not_not.1 c4
   rcases opsV_cases (rd_T61 t (i : Int)).f0 with ⟨e, _⟩ | ⟨e, e2⟩ | ⟨e, e2⟩ | ⟨e, e2⟩
   ·rw [e] at c1; omega
   ·rw [e] at c4
    refine ⟨⟨by omega, by omega⟩, fun h => by omega, fun h => by omega, fun _ => by rw [c4]; rfl⟩
   ·rw [e] at c1 c3 c4
    have hm := hop _ (getD_mem_ (op := op) (j := op.length - 1) (by omega))
    rw [if_pos rfl] at c3
    refine ⟨⟨by omega, by omega⟩, fun h => by rw [c3]; exact hm, fun h => by omega, fun _ => by rw [c4]; rfl⟩
   rw [e] at c1 c3 c4
   have hm := hop _ (getD_mem_ (op := op) (j := op.length - 2) (by omega))
   have hm2 := hop _ (getD_mem_ (op := op) (j := op.length - 1) (by omega))
   rw [if_neg (by omega), if_pos rfl] at c3
   rw [if_pos rfl] at c4
   refine ⟨⟨by omega, by omega⟩, fun h => by rw [c3]; exact hm, fun h => by rw [c4]; exact hm2, fun h => by omega⟩
  refine ih (k + 1) _ (by omega) ?_ h i (by omega) h2
  intro x hx
  rcases List.mem_append.1 hx with hx | hx
  ·have := hop x (List.mem_of_mem_take hx)
   omega
  rw [List.mem_singleton] at hx
  subst hx
  omega
theorem treeV_ok {t : List S61} (h : treeV t = true) (i : Nat) (hi : i < t.length) : nodeOk (rd_T61 t (i : Int)) i :=
 treeL_ok t _ 0 [] (by omega) (fun x hx => by simp at hx) h i (Nat.zero_le _) hi
theorem treeV_pos {t : List S61} (h : treeV t = true) : 0 < t.length := by
 refine Nat.pos_of_ne_zero fun h0 => ?_
 unfold treeV at h
 rw [treeL_end (by omega)] at h
 simp at h
end Go.Proofs.YtbhpjpeknooppaaDoor.M
namespace Go.Proofs.YtbhpjpeknooppaaDoor.M
open Go.RowKit Go.Proofs.YtbhpjpeknooppaaDoorW.PrintWords Go.Proofs.YtbhpjpeknooppaaDoorW.PrintLast Go.Proofs.YtbhpjpeknooppaaDoorW.PrintMore
open Go.Proofs.YtbhpjpeknooppaaDoor.PCodeSpares
set_option linter.unusedVariables false
set_option linter.unusedSimpArgs false
theorem info3 : (Tryd.prog.info? 3).map (fun i => (i.zero, i.size, i.bytes)) = some (some (.int .i64 0), 1, 8) := by kernel_rfl
theorem ops_is (a0 c : Int) (w : World) (h : opsV a0 = c) : Calls Tryd.prog 46 #[.int .i64 a0] w fun e w' => e = .returned (.int .i64 c) ∧ Below w.heap.size w w' :=
 (show_operands.calls 9 a0 c w (by rw [opsV_f, h])).mono fun e w' h => ⟨h.1, by obtain ⟨n, hn⟩ := h.2.out; rw [hn]; exact pw_below_drewN (Below.refl _ _) n⟩
theorem fields_is (a0 a1 : Int) (a2 a3 : ByteArray) (a4 a5 : Int) (b : Bool) (w : World) (G : GlobK w) (h : fieldsV ⟨a0, a1, a2, a3, a4, a5⟩ = b) :
  Calls Tryd.prog 47 #[.agg #[.int .i64 a0, .int .i64 a1, .string a2, .string a3, .int .i64 a4, .int .i64 a5]] w fun e w' => e = .returned (.bool b) ∧ Below w.heap.size w w' :=
 (show_fields a0 a1 a2 a3 a4 a5 w G).mono fun e w' h' => by rw [h] at h'; exact h'
theorem int_at {W : World} {base e : Nat} {ok : Nat → Prop} {gs n cap : Nat} {xs : List Int} (h : (Kd.int .i64).R e W base ok (.slice (some ⟨gs, 0, none⟩) n cap) xs) (i : Nat) (hi : i < n) :
  W.cell? ⟨gs, i, none⟩ = some (.int .i64 (xs.getD i 0)) ∧ W.frozen? ⟨gs, i, none⟩ = false := by
 obtain ⟨hn, _, hC⟩ := Kd.R_reads' h
 obtain ⟨ad, c, he, hl, hK, hc⟩ := Kd.C_get hC (0 : Int) (i : Int) (by omega) (by omega)
 obtain rfl := Option.some.inj he
 obtain ⟨cells, hb⟩ := Kd.R_typed h gs rfl
 have hK' : c = [.int .i64 (xs.getD (i : Int).toNat 0)] := hK
 subst hK'
 have := hc 0 _ rfl
 rw [Int.toNat_natCast, show i * (Kd.int .i64).sz + 0 = i from Nat.mul_one i, add_plain] at this
 exact ⟨this, blk_frozen hb _⟩
theorem int_form {W : World} {base e : Nat} {ok : Nat → Prop} {v : Value} {xs : List Int} (h : (Kd.int .i64).R e W base ok v xs) (m : Nat) (hm : xs.length = m + 1) : ∃ gs cap, v = .slice (some ⟨gs, 0, none⟩) (m + 1) cap ∧ m + 1 ≤ cap := by
 obtain ⟨g, cap, he, _⟩ := Kd.R_form h (by omega)
 have := (Kd.R_reads' (he ▸ h)).2.1
 exact ⟨g, cap, by rw [he, hm], by omega⟩
theorem mu2_ {len k : Nat} {x : Int} (h : k < len) (hx : (k : Int) < x) : len - (intOf (.int .i64 x)).toNat < len - (intOf (.int .i64 (k : Int))).toNat := by
 simp only [intOf, Int.toNat_natCast]
 omega
def aV (c : Int) (op : List Int) : Int := if c = 1 then op.getD (op.length - 1) 0 else if c = 2 then op.getD (op.length - 2) 0 else -1
def bV (c : Int) (op : List Int) : Int := if c = 2 then op.getD (op.length - 1) 0 else -1
section
variable {t : List S61} {d k : Nat} {op : List Int} {n : S61} {c x y : Int} (hi : n = rd_T61 t (k : Int)) (hlt : k < t.length) (hd : t.length < d + k) (hc : opsV n.f0 = c)
include hi hlt hd hc
theorem tb1 (h : c < 0 ∨ (op.length : Int) < c) : treeL t d k op = false := by
 obtain ⟨d', _, hs⟩ := treeL_step (op := op) hlt hd
 rw [hs, ← hi, hc, if_pos h]
theorem tb2 (h : ¬ (c < 0 ∨ (op.length : Int) < c)) (hf : fieldsV n = false) : treeL t d k op = false := by
 obtain ⟨d', _, hs⟩ := treeL_step (op := op) hlt hd
 rw [hs, ← hi, hc, if_neg h, if_pos hf]
theorem tb3 (h : ¬ (c < 0 ∨ (op.length : Int) < c)) (hf : fieldsV n = true) (hx : aV c op = x) (ha : n.f4 ≠ x) : treeL t d k op = false := by
 obtain ⟨d', _, hs⟩ := treeL_step (op := op) hlt hd
 rw [hs, ← hi, hc, if_neg h, if_neg (by rw [hf]; simp), if_pos (by show n.f4 ≠ aV c op; rw [hx]; exact ha)]
theorem tb4 (h : ¬ (c < 0 ∨ (op.length : Int) < c)) (hf : fieldsV n = true) (hx : aV c op = x) (ha : n.f4 = x) (hy : bV c op = y) (hb : n.f5 ≠ y) : treeL t d k op = false := by
 obtain ⟨d', _, hs⟩ := treeL_step (op := op) hlt hd
 rw [hs, ← hi, hc, if_neg h, if_neg (by rw [hf]; simp), if_neg (by show ¬ n.f4 ≠ aV c op; rw [hx]; exact not_not_intro ha), if_pos (by show n.f5 ≠ bV c op; rw [hy]; exact hb)]
theorem tgo (h : ¬ (c < 0 ∨ (op.length : Int) < c)) (hf : fieldsV n = true) (hx : aV c op = x) (ha : n.f4 = x) (hy : bV c op = y) (hb : n.f5 = y) : ∃ d', d = d' + 1 ∧ treeL t d k op = treeL t d' (k + 1) (op.take (op.length - c.toNat) ++ [(k : Int)]) := by
 obtain ⟨d', hd', hs⟩ := treeL_step (op := op) hlt hd
 exact ⟨d', hd', by rw [hs, ← hi, hc, if_neg h, if_neg (by rw [hf]; simp), if_neg (by show ¬ n.f4 ≠ aV c op; rw [hx]; exact not_not_intro ha), if_neg (by show ¬ n.f5 ≠ bV c op; rw [hy]; exact not_not_intro hb)]⟩
end
set_option maxHeartbeats 8000000 in
set_option maxRecDepth 100000 in
theorem show_Tree (A : Option Addr) (c : Nat) (t : List S61) (w : World) (G : GlobK w) (ht : Kd.C k61 w A t.length t) (hsz : t.length ≤ 4398046511104) :
  Calls Tryd.prog 27 #[.slice A t.length c] w fun e w' => e = .returned (.bool (treeV t)) ∧ Below w.heap.size w w' := by
 have HG := am G
 have HP := am ht
 have HB := am (Below.refl w.heap.size w)
 have HS := am hsz
 clear G ht hsz
 go_enter Tryd.func27, Tryd.ntmps27
 go_wp2
 go_loopw [3, 11] (fun v i w' => ∃ (k d : Nat) (op : List Int), i = .int .i64 k ∧ k ≤ t.length ∧ Aside0 (t.length < d + k) ∧ Aside0 (treeL t d k op = treeV t) ∧ Aside0 ((Kd.int .i64).R 3 w' w.heap.size (fun _ => True) v op) ∧ Aside0 (op.length ≤ k) ∧ Aside0 (Below w.heap.size w w')) (fun _ i _ => t.length - (intOf i).toNat)
 case atStart => exact ⟨0, t.length + 1, [], rfl, Nat.zero_le _, ⟨by omega⟩, ⟨rfl⟩, ⟨Kd.R_nil _ _ _ _ _⟩, ⟨Nat.zero_le _⟩, HB⟩
 case round =>
  clear HB
  obtain ⟨k, d, op, rfl, hk, HDK, HR, HO, HX, HB⟩ := hrel
  have HK := am hk
  clear hk
  by_cases hlt : k < t.length
  ·obtain ⟨ad, rfl, b0, b1, b2, b3, b4, b5⟩ := at_T61 HP.out (k : Int) (by omega) (by omega)
   rw [Int.toNat_natCast] at b0 b1 b2 b3 b4 b5
   obtain ⟨ins, hins⟩ : ∃ i, i = rd_T61 t (k : Int) := ⟨_, rfl⟩
   rw [← hins] at b0 b1 b2 b3 b4 b5
   have HI := am hins
   clear hins
   obtain ⟨a0, a1, a2, a3, a4, a5⟩ := ins
   have p0 := pw_cell_below HB.out b0
   have p1 := pw_cell_below HB.out b1
   have p2 := pw_cell_below HB.out b2
   have p3 := pw_cell_below HB.out b3
   have p4 := pw_cell_below HB.out b4
   have p5 := pw_cell_below HB.out b5
   clear b0 b1 b2 b3 b4 b5
   have eK : wrap64 ((k : Int) + 1) = (k : Int) + 1 := IntWalk.wrap64_in _ (by have := HS.out; omega)
   rcases opsV_cases a0 with ⟨hop0, hop1⟩ | ⟨hop0, hop1⟩ | ⟨hop0, hop1⟩ | ⟨hop0, hop1⟩
   ·have hop := am hop0
    clear hop0 hop1
    obtain ⟨AS, cp, rfl⟩ := Kd.R_slice HO.out
    have HE := am (show treeV t = false from by rw [← HR.out]; exact tb1 HI.out hlt HDK.out hop.out (.inl (by omega)))
    go_wp2_with (first | ((with_reducible refine gate_dst (N := 5) rfl ?_); refine box_event ?hg (N := 5) ?hd (cs := #[.int .i64 0, .int .i64 0, .string ByteArray.empty, .string ByteArray.empty, .int .i64 0, .int .i64 0]) (t := 61) ?hr ?_; (case hd => rfl); (case hg => rfl); (case hr => first | (go_simp; done) | (go_simp; rfl)); intro g5 hg_ W1 hbox hb; have GE_g5 := ge1 hg_ HB; replace HB := bs HB hb; replace HO := bR HO hb; have BK_g5 := am hbox; have c_g5 := cf6 BK_g5; clear hb hbox hg_) | ((with_reducible refine gate_store (t := 61) (p := 5) rfl ?_); refine store_event (t := 61) (p := 5) (v := ?vo_W2_1) (w1 := ?w1_W2_2) ?hg ?ho ?hn ?hr ?_; (case ho => rfl); (case hg => rfl); (case hn => rfl); (case hr => first | (go_simp; done) | (go_simp; rfl)); intro W2 hw; have hk := kb6 hw; replace HO := am (Kd.R_mono (Kd.R_keep (Kd.R_types HO.out BK_g5.out (by decide)) hk (fun _ h_ => h_.2)) (fun _ h_ => h_.1)); replace HB := sb6 HB GE_g5 hw; (try clear c_g5); replace BK_g5 := bp6 BK_g5 hw; have c_g5 := cf6 BK_g5; clear hk hw) | (go_at_call 46; refine (ops_is a0 (-1) _ hop.out).mono ?_; rintro e W3 ⟨rfl, hb⟩; replace HB := bs HB hb; (try clear c_g5); replace BK_g5 := bb BK_g5 hb; have c_g5 := cf6 BK_g5; replace HO := bR HO hb; clear hb))
    refine bodyPost_ret (v := .bool false) (by simp [results, Tryd.results27, go_sem, *]) rfl ⟨by rw [HE.out], HB.out⟩
   ·have hop := am hop0
    clear hop0 hop1
    obtain ⟨AS, cp, rfl⟩ := Kd.R_slice HO.out
    have eD : decide ((op.length : Int) < 0) = false := by simp
    have eT0 : wrap64 (op.length : Int) = (op.length : Int) := IntWalk.wrap64_in _ (by have := HX.out; have := HS.out; have := HK.out; omega)
    have hcp := (Kd.R_reads' HO.out).2.1
    have hnl : ¬ ((0 : Int) < 0 ∨ (op.length : Int) < 0) := by omega
    cases hf0 : fieldsV ⟨a0, a1, a2, a3, a4, a5⟩
    ·have hf := am hf0
     clear hf0
     have HE := am (show treeV t = false from by rw [← HR.out]; exact tb2 HI.out hlt HDK.out hop.out hnl hf.out)
     go_wp2_with (first | ((with_reducible refine gate_dst (N := 5) rfl ?_); refine box_event ?hg (N := 5) ?hd (cs := #[.int .i64 0, .int .i64 0, .string ByteArray.empty, .string ByteArray.empty, .int .i64 0, .int .i64 0]) (t := 61) ?hr ?_; (case hd => rfl); (case hg => rfl); (case hr => first | (go_simp; done) | (go_simp; rfl)); intro g5 hg_ W1 hbox hb; have GE_g5 := ge1 hg_ HB; replace HB := bs HB hb; replace HO := bR HO hb; have BK_g5 := am hbox; have c_g5 := cf6 BK_g5; clear hb hbox hg_) | ((with_reducible refine gate_store (t := 61) (p := 5) rfl ?_); refine store_event (t := 61) (p := 5) (v := ?vo_W2_3) (w1 := ?w1_W2_4) ?hg ?ho ?hn ?hr ?_; (case ho => rfl); (case hg => rfl); (case hn => rfl); (case hr => first | (go_simp; done) | (go_simp; rfl)); intro W2 hw; have hk := kb6 hw; replace HO := am (Kd.R_mono (Kd.R_keep (Kd.R_types HO.out BK_g5.out (by decide)) hk (fun _ h_ => h_.2)) (fun _ h_ => h_.1)); replace HB := sb6 HB GE_g5 hw; (try clear c_g5); replace BK_g5 := bp6 BK_g5 hw; have c_g5 := cf6 BK_g5; clear hk hw) | (go_at_call 46; refine (ops_is a0 0 _ hop.out).mono ?_; rintro e W3 ⟨rfl, hb⟩; replace HB := bs HB hb; (try clear c_g5); replace BK_g5 := bb BK_g5 hb; have c_g5 := cf6 BK_g5; replace HO := bR HO hb; clear hb) | (go_at_call 47; refine (fields_is a0 a1 a2 a3 a4 a5 false _ (HG.out.below HB.out) hf.out).mono ?_; rintro e W4 ⟨rfl, hb⟩; replace HB := bs HB hb; (try clear c_g5); replace BK_g5 := bb BK_g5 hb; have c_g5 := cf6 BK_g5; replace HO := bR HO hb; clear hb))
     refine bodyPost_ret (v := .bool false) (by simp [results, Tryd.results27, go_sem, *]) rfl ⟨by rw [HE.out], HB.out⟩
    have hf := am hf0
    clear hf0
    have hx := am (show aV 0 op = -1 from rfl)
    have hy := am (show bV 0 op = -1 from rfl)
    by_cases ha : a4 ≠ (-1)
    ·have eA : (a4 != (-1)) = true := by simpa using ha
     have HE := am (show treeV t = false from by rw [← HR.out]; exact tb3 HI.out hlt HDK.out hop.out hnl hf.out hx.out ha)
     go_wp2_with (first | ((with_reducible refine gate_dst (N := 5) rfl ?_); refine box_event ?hg (N := 5) ?hd (cs := #[.int .i64 0, .int .i64 0, .string ByteArray.empty, .string ByteArray.empty, .int .i64 0, .int .i64 0]) (t := 61) ?hr ?_; (case hd => rfl); (case hg => rfl); (case hr => first | (go_simp; done) | (go_simp; rfl)); intro g5 hg_ W1 hbox hb; have GE_g5 := ge1 hg_ HB; replace HB := bs HB hb; replace HO := bR HO hb; have BK_g5 := am hbox; have c_g5 := cf6 BK_g5; clear hb hbox hg_) | ((with_reducible refine gate_store (t := 61) (p := 5) rfl ?_); refine store_event (t := 61) (p := 5) (v := ?vo_W2_5) (w1 := ?w1_W2_6) ?hg ?ho ?hn ?hr ?_; (case ho => rfl); (case hg => rfl); (case hn => rfl); (case hr => first | (go_simp; done) | (go_simp; rfl)); intro W2 hw; have hk := kb6 hw; replace HO := am (Kd.R_mono (Kd.R_keep (Kd.R_types HO.out BK_g5.out (by decide)) hk (fun _ h_ => h_.2)) (fun _ h_ => h_.1)); replace HB := sb6 HB GE_g5 hw; (try clear c_g5); replace BK_g5 := bp6 BK_g5 hw; have c_g5 := cf6 BK_g5; clear hk hw) | (go_at_call 46; refine (ops_is a0 0 _ hop.out).mono ?_; rintro e W3 ⟨rfl, hb⟩; replace HB := bs HB hb; (try clear c_g5); replace BK_g5 := bb BK_g5 hb; have c_g5 := cf6 BK_g5; replace HO := bR HO hb; clear hb) | (go_at_call 47; refine (fields_is a0 a1 a2 a3 a4 a5 true _ (HG.out.below HB.out) hf.out).mono ?_; rintro e W4 ⟨rfl, hb⟩; replace HB := bs HB hb; (try clear c_g5); replace BK_g5 := bb BK_g5 hb; have c_g5 := cf6 BK_g5; replace HO := bR HO hb; clear hb))
     refine bodyPost_ret (v := .bool false) (by simp [results, Tryd.results27, go_sem, *]) rfl ⟨by rw [HE.out], HB.out⟩
    have ha := Classical.not_not.1 ha
    by_cases hb_ : a5 ≠ (-1)
    ·have HA := am ha
     clear ha
     have eA : (a4 != (-1)) = false := by simp [HA.out]
     have eB : (a5 != (-1)) = true := by simpa using hb_
     have HE := am (show treeV t = false from by rw [← HR.out]; exact tb4 HI.out hlt HDK.out hop.out hnl hf.out hx.out HA.out hy.out hb_)
     go_wp2_with (first | ((with_reducible refine gate_dst (N := 5) rfl ?_); refine box_event ?hg (N := 5) ?hd (cs := #[.int .i64 0, .int .i64 0, .string ByteArray.empty, .string ByteArray.empty, .int .i64 0, .int .i64 0]) (t := 61) ?hr ?_; (case hd => rfl); (case hg => rfl); (case hr => first | (go_simp; done) | (go_simp; rfl)); intro g5 hg_ W1 hbox hb; have GE_g5 := ge1 hg_ HB; replace HB := bs HB hb; replace HO := bR HO hb; have BK_g5 := am hbox; have c_g5 := cf6 BK_g5; clear hb hbox hg_) | ((with_reducible refine gate_store (t := 61) (p := 5) rfl ?_); refine store_event (t := 61) (p := 5) (v := ?vo_W2_7) (w1 := ?w1_W2_8) ?hg ?ho ?hn ?hr ?_; (case ho => rfl); (case hg => rfl); (case hn => rfl); (case hr => first | (go_simp; done) | (go_simp; rfl)); intro W2 hw; have hk := kb6 hw; replace HO := am (Kd.R_mono (Kd.R_keep (Kd.R_types HO.out BK_g5.out (by decide)) hk (fun _ h_ => h_.2)) (fun _ h_ => h_.1)); replace HB := sb6 HB GE_g5 hw; (try clear c_g5); replace BK_g5 := bp6 BK_g5 hw; have c_g5 := cf6 BK_g5; clear hk hw) | (go_at_call 46; refine (ops_is a0 0 _ hop.out).mono ?_; rintro e W3 ⟨rfl, hb⟩; replace HB := bs HB hb; (try clear c_g5); replace BK_g5 := bb BK_g5 hb; have c_g5 := cf6 BK_g5; replace HO := bR HO hb; clear hb) | (go_at_call 47; refine (fields_is a0 a1 a2 a3 a4 a5 true _ (HG.out.below HB.out) hf.out).mono ?_; rintro e W4 ⟨rfl, hb⟩; replace HB := bs HB hb; (try clear c_g5); replace BK_g5 := bb BK_g5 hb; have c_g5 := cf6 BK_g5; replace HO := bR HO hb; clear hb))
     refine bodyPost_ret (v := .bool false) (by simp [results, Tryd.results27, go_sem, *]) rfl ⟨by rw [HE.out], HB.out⟩
    have hb_ := Classical.not_not.1 hb_
    obtain ⟨d', rfl, hgo⟩ := tgo (op := op) HI.out hlt HDK.out hop.out hnl hf.out hx.out ha hy.out hb_
    have HE := am (HR.out.symm.trans hgo)
    clear hgo
    have eA : (a4 != -1) = false := by simp [ha]
    have eB : (a5 != -1) = false := by simp [hb_]
    clear ha hb_
    go_wp2_with (first | ((with_reducible refine gate_dst (N := 5) rfl ?_); refine box_event ?hg (N := 5) ?hd (cs := #[.int .i64 0, .int .i64 0, .string ByteArray.empty, .string ByteArray.empty, .int .i64 0, .int .i64 0]) (t := 61) ?hr ?_; (case hd => rfl); (case hg => rfl); (case hr => first | (go_simp; done) | (go_simp; rfl)); intro g5 hg_ W1 hbox hb; have GE_g5 := ge1 hg_ HB; replace HB := bs HB hb; replace HO := bR HO hb; have BK_g5 := am hbox; have c_g5 := cf6 BK_g5; clear hb hbox hg_) | ((with_reducible refine gate_store (t := 61) (p := 5) rfl ?_); refine store_event (t := 61) (p := 5) (v := ?vo_W2_9) (w1 := ?w1_W2_10) ?hg ?ho ?hn ?hr ?_; (case ho => rfl); (case hg => rfl); (case hn => rfl); (case hr => first | (go_simp; done) | (go_simp; rfl)); intro W2 hw; have hk := kb6 hw; replace HO := am (Kd.R_mono (Kd.R_keep (Kd.R_types HO.out BK_g5.out (by decide)) hk (fun _ h_ => h_.2)) (fun _ h_ => h_.1)); replace HB := sb6 HB GE_g5 hw; (try clear c_g5); replace BK_g5 := bp6 BK_g5 hw; have c_g5 := cf6 BK_g5; clear hk hw) | (go_at_call 46; refine (ops_is a0 0 _ hop.out).mono ?_; rintro e W3 ⟨rfl, hb⟩; replace HB := bs HB hb; (try clear c_g5); replace BK_g5 := bb BK_g5 hb; have c_g5 := cf6 BK_g5; replace HO := bR HO hb; clear hb) | (go_at_call 47; refine (fields_is a0 a1 a2 a3 a4 a5 true _ (HG.out.below HB.out) hf.out).mono ?_; rintro e W4 ⟨rfl, hb⟩; replace HB := bs HB hb; (try clear c_g5); replace BK_g5 := bb BK_g5 hb; have c_g5 := cf6 BK_g5; replace HO := bR HO hb; clear hb) | ((with_reducible refine gate_builtin (b := .append) (xs := #[.tmp 70, .tmp 72]) rfl ?_); at_builtin; refine Kd.R_append (Kd.int .i64) (w0 := w) w.heap.size rfl (.tmp 70) (.tmp 72) 48 3 (.int .i64 0) 8 rfl Tryd.underlying48 info3 rfl (by decide) (by omega) _ (op) (k : Int) [.int .i64 (k : Int)] (fun _ => True) (fun _ => False) rfl ?aX ?aP (fun _ hk => hk.elim) ?aF HO.out HB.out (below_size HB.out) ?aL ?_; (case aX => first | rfl | (show Value.slice _ _ _ = Value.slice _ _ _; simp)); (case aP => exact rfl); (case aF => exact (fun _ _ => trivial)); (case aL => (try simp only [List.length_take]); have := HX.out; have := HK.out; have := HS.out; omega); intro v_ W5 ho hb hg hat_; have HB9 := am hb; have HO9 := am ho; clear hat_ ho hb hg))
    go_roundw
    case rel => exact ⟨k + 1, d', _, by first | rfl | go_num, by omega, ⟨by have := HDK.out; omega⟩, ⟨HE.out.symm.trans (by rfl)⟩, ⟨by rw [show op.take (op.length - (0 : Int).toNat) = op from List.take_of_length_le (Nat.le_refl _)]; exact HO9.out⟩, ⟨by simp only [List.length_append, List.length_take, List.length_singleton]; have := HX.out; omega⟩, HB9⟩
    case measure => exact mu2_ hlt (by rw [eK]; exact Int.lt_succ _)
   ·have hop := am hop0
    clear hop0 hop1
    by_cases hl : op.length < 1
    ·obtain ⟨AS, cp, rfl⟩ := Kd.R_slice HO.out
     have eD : decide ((op.length : Int) < 1) = true := by simp; omega
     have HE := am (show treeV t = false from by rw [← HR.out]; exact tb1 HI.out hlt HDK.out hop.out (.inr (by omega)))
     go_wp2_with (first | ((with_reducible refine gate_dst (N := 5) rfl ?_); refine box_event ?hg (N := 5) ?hd (cs := #[.int .i64 0, .int .i64 0, .string ByteArray.empty, .string ByteArray.empty, .int .i64 0, .int .i64 0]) (t := 61) ?hr ?_; (case hd => rfl); (case hg => rfl); (case hr => first | (go_simp; done) | (go_simp; rfl)); intro g5 hg_ W1 hbox hb; have GE_g5 := ge1 hg_ HB; replace HB := bs HB hb; replace HO := bR HO hb; have BK_g5 := am hbox; have c_g5 := cf6 BK_g5; clear hb hbox hg_) | ((with_reducible refine gate_store (t := 61) (p := 5) rfl ?_); refine store_event (t := 61) (p := 5) (v := ?vo_W2_11) (w1 := ?w1_W2_12) ?hg ?ho ?hn ?hr ?_; (case ho => rfl); (case hg => rfl); (case hn => rfl); (case hr => first | (go_simp; done) | (go_simp; rfl)); intro W2 hw; have hk := kb6 hw; replace HO := am (Kd.R_mono (Kd.R_keep (Kd.R_types HO.out BK_g5.out (by decide)) hk (fun _ h_ => h_.2)) (fun _ h_ => h_.1)); replace HB := sb6 HB GE_g5 hw; (try clear c_g5); replace BK_g5 := bp6 BK_g5 hw; have c_g5 := cf6 BK_g5; clear hk hw) | (go_at_call 46; refine (ops_is a0 1 _ hop.out).mono ?_; rintro e W3 ⟨rfl, hb⟩; replace HB := bs HB hb; (try clear c_g5); replace BK_g5 := bb BK_g5 hb; have c_g5 := cf6 BK_g5; replace HO := bR HO hb; clear hb))
     refine bodyPost_ret (v := .bool false) (by simp [results, Tryd.results27, go_sem, *]) rfl ⟨by rw [HE.out], HB.out⟩
    obtain ⟨m, hm⟩ : ∃ m, op.length = m + 1 := ⟨op.length - 1, by omega⟩
    obtain ⟨gs, cp, rfl, hcp⟩ := int_form HO.out m hm
    have eD : decide ((m : Int) + 1 < 1) = false := by simp; omega
    have eT1 : wrap64 ((m : Int) + 1 - 1) = (m : Int) := by rw [show (m : Int) + 1 - 1 = (m : Int) by omega]; exact IntWalk.wrap64_in _ (by have := HX.out; have := HS.out; have := HK.out; omega)
    have eT2 : wrap64 ((m : Int)) = (m : Int) := IntWalk.wrap64_in _ (by have := HX.out; have := HS.out; have := HK.out; omega)
    have hnl : ¬ ((1 : Int) < 0 ∨ (op.length : Int) < 1) := by omega
    cases hf0 : fieldsV ⟨a0, a1, a2, a3, a4, a5⟩
    ·have hf := am hf0
     clear hf0
     have HE := am (show treeV t = false from by rw [← HR.out]; exact tb2 HI.out hlt HDK.out hop.out hnl hf.out)
     go_wp2_with (first | ((with_reducible refine gate_dst (N := 5) rfl ?_); refine box_event ?hg (N := 5) ?hd (cs := #[.int .i64 0, .int .i64 0, .string ByteArray.empty, .string ByteArray.empty, .int .i64 0, .int .i64 0]) (t := 61) ?hr ?_; (case hd => rfl); (case hg => rfl); (case hr => first | (go_simp; done) | (go_simp; rfl)); intro g5 hg_ W1 hbox hb; have GE_g5 := ge1 hg_ HB; replace HB := bs HB hb; replace HO := bR HO hb; have BK_g5 := am hbox; have c_g5 := cf6 BK_g5; clear hb hbox hg_) | ((with_reducible refine gate_store (t := 61) (p := 5) rfl ?_); refine store_event (t := 61) (p := 5) (v := ?vo_W2_13) (w1 := ?w1_W2_14) ?hg ?ho ?hn ?hr ?_; (case ho => rfl); (case hg => rfl); (case hn => rfl); (case hr => first | (go_simp; done) | (go_simp; rfl)); intro W2 hw; have hk := kb6 hw; replace HO := am (Kd.R_mono (Kd.R_keep (Kd.R_types HO.out BK_g5.out (by decide)) hk (fun _ h_ => h_.2)) (fun _ h_ => h_.1)); replace HB := sb6 HB GE_g5 hw; (try clear c_g5); replace BK_g5 := bp6 BK_g5 hw; have c_g5 := cf6 BK_g5; clear hk hw) | (go_at_call 46; refine (ops_is a0 1 _ hop.out).mono ?_; rintro e W3 ⟨rfl, hb⟩; replace HB := bs HB hb; (try clear c_g5); replace BK_g5 := bb BK_g5 hb; have c_g5 := cf6 BK_g5; replace HO := bR HO hb; clear hb) | (go_at_call 47; refine (fields_is a0 a1 a2 a3 a4 a5 false _ (HG.out.below HB.out) hf.out).mono ?_; rintro e W4 ⟨rfl, hb⟩; replace HB := bs HB hb; (try clear c_g5); replace BK_g5 := bb BK_g5 hb; have c_g5 := cf6 BK_g5; replace HO := bR HO hb; clear hb))
     refine bodyPost_ret (v := .bool false) (by simp [results, Tryd.results27, go_sem, *]) rfl ⟨by rw [HE.out], HB.out⟩
    have hf := am hf0
    clear hf0
    obtain ⟨x, hx0⟩ : ∃ x, op.getD m 0 = x := ⟨_, rfl⟩
    have HXM := am hx0
    have hx := am (show aV 1 op = x from by rw [aV, if_pos rfl, hm]; exact hx0)
    have hy := am (show bV 1 op = -1 from rfl)
    clear hx0
    have s0 : wr.cell? ⟨gs, m, none⟩ = some (.int .i64 x) := by rw [← HXM.out]; exact (int_at HO.out m (by omega)).1
    by_cases ha : a4 ≠ x
    ·have eA : (a4 != x) = true := by simpa using ha
     have HE := am (show treeV t = false from by rw [← HR.out]; exact tb3 HI.out hlt HDK.out hop.out hnl hf.out hx.out ha)
     go_wp2_with (first | ((with_reducible refine gate_dst (N := 5) rfl ?_); refine box_event ?hg (N := 5) ?hd (cs := #[.int .i64 0, .int .i64 0, .string ByteArray.empty, .string ByteArray.empty, .int .i64 0, .int .i64 0]) (t := 61) ?hr ?_; (case hd => rfl); (case hg => rfl); (case hr => first | (go_simp; done) | (go_simp; rfl)); intro g5 hg_ W1 hbox hb; have GE_g5 := ge1 hg_ HB; replace HB := bs HB hb; replace HO := bR HO hb; have BK_g5 := am hbox; have c_g5 := cf6 BK_g5; clear hb hbox hg_; (try clear s0); have s0 : W1.cell? ⟨gs, m, none⟩ = some (.int .i64 x) := (by rw [← HXM.out]; exact (int_at HO.out m (by omega)).1)) | ((with_reducible refine gate_store (t := 61) (p := 5) rfl ?_); refine store_event (t := 61) (p := 5) (v := ?vo_W2_15) (w1 := ?w1_W2_16) ?hg ?ho ?hn ?hr ?_; (case ho => rfl); (case hg => rfl); (case hn => rfl); (case hr => first | (go_simp; done) | (go_simp; rfl)); intro W2 hw; have hk := kb6 hw; replace HO := am (Kd.R_mono (Kd.R_keep (Kd.R_types HO.out BK_g5.out (by decide)) hk (fun _ h_ => h_.2)) (fun _ h_ => h_.1)); replace HB := sb6 HB GE_g5 hw; (try clear c_g5); replace BK_g5 := bp6 BK_g5 hw; have c_g5 := cf6 BK_g5; clear hk hw; (try clear s0); have s0 : W2.cell? ⟨gs, m, none⟩ = some (.int .i64 x) := (by rw [← HXM.out]; exact (int_at HO.out m (by omega)).1)) | (go_at_call 46; refine (ops_is a0 1 _ hop.out).mono ?_; rintro e W3 ⟨rfl, hb⟩; replace HB := bs HB hb; (try clear c_g5); replace BK_g5 := bb BK_g5 hb; have c_g5 := cf6 BK_g5; replace HO := bR HO hb; clear hb; (try clear s0); have s0 : W3.cell? ⟨gs, m, none⟩ = some (.int .i64 x) := (by rw [← HXM.out]; exact (int_at HO.out m (by omega)).1)) | (go_at_call 47; refine (fields_is a0 a1 a2 a3 a4 a5 true _ (HG.out.below HB.out) hf.out).mono ?_; rintro e W4 ⟨rfl, hb⟩; replace HB := bs HB hb; (try clear c_g5); replace BK_g5 := bb BK_g5 hb; have c_g5 := cf6 BK_g5; replace HO := bR HO hb; clear hb; (try clear s0); have s0 : W4.cell? ⟨gs, m, none⟩ = some (.int .i64 x) := (by rw [← HXM.out]; exact (int_at HO.out m (by omega)).1)))
     refine bodyPost_ret (v := .bool false) (by simp [results, Tryd.results27, go_sem, *]) rfl ⟨by rw [HE.out], HB.out⟩
    have ha := Classical.not_not.1 ha
    by_cases hb_ : a5 ≠ (-1)
    ·have HA := am ha
     clear ha
     have eA : (a4 != x) = false := by simp [HA.out]
     have eB : (a5 != (-1)) = true := by simpa using hb_
     have HE := am (show treeV t = false from by rw [← HR.out]; exact tb4 HI.out hlt HDK.out hop.out hnl hf.out hx.out HA.out hy.out hb_)
     go_wp2_with (first | ((with_reducible refine gate_dst (N := 5) rfl ?_); refine box_event ?hg (N := 5) ?hd (cs := #[.int .i64 0, .int .i64 0, .string ByteArray.empty, .string ByteArray.empty, .int .i64 0, .int .i64 0]) (t := 61) ?hr ?_; (case hd => rfl); (case hg => rfl); (case hr => first | (go_simp; done) | (go_simp; rfl)); intro g5 hg_ W1 hbox hb; have GE_g5 := ge1 hg_ HB; replace HB := bs HB hb; replace HO := bR HO hb; have BK_g5 := am hbox; have c_g5 := cf6 BK_g5; clear hb hbox hg_; (try clear s0); have s0 : W1.cell? ⟨gs, m, none⟩ = some (.int .i64 x) := (by rw [← HXM.out]; exact (int_at HO.out m (by omega)).1)) | ((with_reducible refine gate_store (t := 61) (p := 5) rfl ?_); refine store_event (t := 61) (p := 5) (v := ?vo_W2_17) (w1 := ?w1_W2_18) ?hg ?ho ?hn ?hr ?_; (case ho => rfl); (case hg => rfl); (case hn => rfl); (case hr => first | (go_simp; done) | (go_simp; rfl)); intro W2 hw; have hk := kb6 hw; replace HO := am (Kd.R_mono (Kd.R_keep (Kd.R_types HO.out BK_g5.out (by decide)) hk (fun _ h_ => h_.2)) (fun _ h_ => h_.1)); replace HB := sb6 HB GE_g5 hw; (try clear c_g5); replace BK_g5 := bp6 BK_g5 hw; have c_g5 := cf6 BK_g5; clear hk hw; (try clear s0); have s0 : W2.cell? ⟨gs, m, none⟩ = some (.int .i64 x) := (by rw [← HXM.out]; exact (int_at HO.out m (by omega)).1)) | (go_at_call 46; refine (ops_is a0 1 _ hop.out).mono ?_; rintro e W3 ⟨rfl, hb⟩; replace HB := bs HB hb; (try clear c_g5); replace BK_g5 := bb BK_g5 hb; have c_g5 := cf6 BK_g5; replace HO := bR HO hb; clear hb; (try clear s0); have s0 : W3.cell? ⟨gs, m, none⟩ = some (.int .i64 x) := (by rw [← HXM.out]; exact (int_at HO.out m (by omega)).1)) | (go_at_call 47; refine (fields_is a0 a1 a2 a3 a4 a5 true _ (HG.out.below HB.out) hf.out).mono ?_; rintro e W4 ⟨rfl, hb⟩; replace HB := bs HB hb; (try clear c_g5); replace BK_g5 := bb BK_g5 hb; have c_g5 := cf6 BK_g5; replace HO := bR HO hb; clear hb; (try clear s0); have s0 : W4.cell? ⟨gs, m, none⟩ = some (.int .i64 x) := (by rw [← HXM.out]; exact (int_at HO.out m (by omega)).1)))
     refine bodyPost_ret (v := .bool false) (by simp [results, Tryd.results27, go_sem, *]) rfl ⟨by rw [HE.out], HB.out⟩
    have hb_ := Classical.not_not.1 hb_
    obtain ⟨d', rfl, hgo⟩ := tgo (op := op) HI.out hlt HDK.out hop.out hnl hf.out hx.out ha hy.out hb_
    have HE := am (HR.out.symm.trans hgo)
    clear hgo
    have eA : (a4 != x) = false := by simp [ha]
    have eB : (a5 != -1) = false := by simp [hb_]
    clear ha hb_
    go_wp2_with (first | ((with_reducible refine gate_dst (N := 5) rfl ?_); refine box_event ?hg (N := 5) ?hd (cs := #[.int .i64 0, .int .i64 0, .string ByteArray.empty, .string ByteArray.empty, .int .i64 0, .int .i64 0]) (t := 61) ?hr ?_; (case hd => rfl); (case hg => rfl); (case hr => first | (go_simp; done) | (go_simp; rfl)); intro g5 hg_ W1 hbox hb; have GE_g5 := ge1 hg_ HB; replace HB := bs HB hb; replace HO := bR HO hb; have BK_g5 := am hbox; have c_g5 := cf6 BK_g5; clear hb hbox hg_; (try clear s0); have s0 : W1.cell? ⟨gs, m, none⟩ = some (.int .i64 x) := (by rw [← HXM.out]; exact (int_at HO.out m (by omega)).1)) | ((with_reducible refine gate_store (t := 61) (p := 5) rfl ?_); refine store_event (t := 61) (p := 5) (v := ?vo_W2_19) (w1 := ?w1_W2_20) ?hg ?ho ?hn ?hr ?_; (case ho => rfl); (case hg => rfl); (case hn => rfl); (case hr => first | (go_simp; done) | (go_simp; rfl)); intro W2 hw; have hk := kb6 hw; replace HO := am (Kd.R_mono (Kd.R_keep (Kd.R_types HO.out BK_g5.out (by decide)) hk (fun _ h_ => h_.2)) (fun _ h_ => h_.1)); replace HB := sb6 HB GE_g5 hw; (try clear c_g5); replace BK_g5 := bp6 BK_g5 hw; have c_g5 := cf6 BK_g5; clear hk hw; (try clear s0); have s0 : W2.cell? ⟨gs, m, none⟩ = some (.int .i64 x) := (by rw [← HXM.out]; exact (int_at HO.out m (by omega)).1)) | (go_at_call 46; refine (ops_is a0 1 _ hop.out).mono ?_; rintro e W3 ⟨rfl, hb⟩; replace HB := bs HB hb; (try clear c_g5); replace BK_g5 := bb BK_g5 hb; have c_g5 := cf6 BK_g5; replace HO := bR HO hb; clear hb; (try clear s0); have s0 : W3.cell? ⟨gs, m, none⟩ = some (.int .i64 x) := (by rw [← HXM.out]; exact (int_at HO.out m (by omega)).1)) | (go_at_call 47; refine (fields_is a0 a1 a2 a3 a4 a5 true _ (HG.out.below HB.out) hf.out).mono ?_; rintro e W4 ⟨rfl, hb⟩; replace HB := bs HB hb; (try clear c_g5); replace BK_g5 := bb BK_g5 hb; have c_g5 := cf6 BK_g5; replace HO := bR HO hb; clear hb; (try clear s0); have s0 : W4.cell? ⟨gs, m, none⟩ = some (.int .i64 x) := (by rw [← HXM.out]; exact (int_at HO.out m (by omega)).1)) | ((with_reducible refine gate_builtin (b := .append) (xs := #[.tmp 70, .tmp 72]) rfl ?_); at_builtin; refine Kd.R_append (Kd.int .i64) (w0 := w) w.heap.size rfl (.tmp 70) (.tmp 72) 48 3 (.int .i64 0) 8 rfl Tryd.underlying48 info3 rfl (by decide) (by omega) _ (op.take m) (k : Int) [.int .i64 (k : Int)] (fun _ => True) (fun _ => False) rfl ?aX ?aP (fun _ hk => hk.elim) ?aF (Kd.R_take HO.out (by omega)) HB.out (below_size HB.out) ?aL ?_; (case aX => first | rfl | (show Value.slice _ _ _ = Value.slice _ _ _; simp)); (case aP => exact rfl); (case aF => exact (fun _ _ => trivial)); (case aL => (try simp only [List.length_take]); have := HX.out; have := HK.out; have := HS.out; omega); intro v_ W5 ho hb hg hat_; have HB9 := am hb; have HO9 := am ho; clear hat_ ho hb hg))
    go_roundw
    case rel => exact ⟨k + 1, d', _, by first | rfl | go_num, by omega, ⟨by have := HDK.out; omega⟩, ⟨HE.out.symm.trans (by rfl)⟩, ⟨by rw [show op.length - (1 : Int).toNat = m from by rw [hm]; rfl]; exact HO9.out⟩, ⟨by simp only [List.length_append, List.length_take, List.length_singleton]; have := HX.out; omega⟩, HB9⟩
    case measure => exact mu2_ hlt (by rw [eK]; exact Int.lt_succ _)
   have hop := am hop0
   clear hop0 hop1
   by_cases hl : op.length < 2
   ·obtain ⟨AS, cp, rfl⟩ := Kd.R_slice HO.out
    have eD : decide ((op.length : Int) < 2) = true := by simp; omega
    have HE := am (show treeV t = false from by rw [← HR.out]; exact tb1 HI.out hlt HDK.out hop.out (.inr (by omega)))
    go_wp2_with (first | ((with_reducible refine gate_dst (N := 5) rfl ?_); refine box_event ?hg (N := 5) ?hd (cs := #[.int .i64 0, .int .i64 0, .string ByteArray.empty, .string ByteArray.empty, .int .i64 0, .int .i64 0]) (t := 61) ?hr ?_; (case hd => rfl); (case hg => rfl); (case hr => first | (go_simp; done) | (go_simp; rfl)); intro g5 hg_ W1 hbox hb; have GE_g5 := ge1 hg_ HB; replace HB := bs HB hb; replace HO := bR HO hb; have BK_g5 := am hbox; have c_g5 := cf6 BK_g5; clear hb hbox hg_) | ((with_reducible refine gate_store (t := 61) (p := 5) rfl ?_); refine store_event (t := 61) (p := 5) (v := ?vo_W2_21) (w1 := ?w1_W2_22) ?hg ?ho ?hn ?hr ?_; (case ho => rfl); (case hg => rfl); (case hn => rfl); (case hr => first | (go_simp; done) | (go_simp; rfl)); intro W2 hw; have hk := kb6 hw; replace HO := am (Kd.R_mono (Kd.R_keep (Kd.R_types HO.out BK_g5.out (by decide)) hk (fun _ h_ => h_.2)) (fun _ h_ => h_.1)); replace HB := sb6 HB GE_g5 hw; (try clear c_g5); replace BK_g5 := bp6 BK_g5 hw; have c_g5 := cf6 BK_g5; clear hk hw) | (go_at_call 46; refine (ops_is a0 2 _ hop.out).mono ?_; rintro e W3 ⟨rfl, hb⟩; replace HB := bs HB hb; (try clear c_g5); replace BK_g5 := bb BK_g5 hb; have c_g5 := cf6 BK_g5; replace HO := bR HO hb; clear hb))
    refine bodyPost_ret (v := .bool false) (by simp [results, Tryd.results27, go_sem, *]) rfl ⟨by rw [HE.out], HB.out⟩
   obtain ⟨m, hm⟩ : ∃ m, op.length = m + 1 + 1 := ⟨op.length - 2, by omega⟩
   obtain ⟨gs, cp, rfl, hcp⟩ := int_form HO.out (m + 1) hm
   have eD : decide ((m : Int) + 1 + 1 < 2) = false := by simp; omega
   have eT1 : wrap64 ((m : Int) + 1 + 1 - 1) = (m : Int) + 1 := by rw [show (m : Int) + 1 + 1 - 1 = (m : Int) + 1 by omega]; exact IntWalk.wrap64_in _ (by have := HX.out; have := HS.out; have := HK.out; omega)
   have eT2 : wrap64 ((m : Int) + 1) = (m : Int) + 1 := IntWalk.wrap64_in _ (by have := HX.out; have := HS.out; have := HK.out; omega)
   have eT3 : wrap64 ((m : Int) + 1 + 1 - 2) = (m : Int) := by rw [show (m : Int) + 1 + 1 - 2 = m by omega]; exact IntWalk.wrap64_in _ (by have := HX.out; have := HS.out; have := HK.out; omega)
   have eT4 : wrap64 (m : Int) = (m : Int) := IntWalk.wrap64_in _ (by have := HX.out; have := HS.out; have := HK.out; omega)
   have eT5 : wrap64 ((m : Int) + 1 - 1) = (m : Int) := by rw [show (m : Int) + 1 - 1 = m by omega]; exact eT4
   have eI1 : (m : Int) < (m : Int) + 1 + 1 := by omega
   have eI2 : (0 : Int) ≤ (m : Int) + 1 := by omega
   have eI3 : (m : Int) + 1 < (m : Int) + 1 + 1 := by omega
   have hnl : ¬ ((2 : Int) < 0 ∨ (op.length : Int) < 2) := by omega
   cases hf0 : fieldsV ⟨a0, a1, a2, a3, a4, a5⟩
   ·have hf := am hf0
    clear hf0
    have HE := am (show treeV t = false from by rw [← HR.out]; exact tb2 HI.out hlt HDK.out hop.out hnl hf.out)
    go_wp2_with (first | ((with_reducible refine gate_dst (N := 5) rfl ?_); refine box_event ?hg (N := 5) ?hd (cs := #[.int .i64 0, .int .i64 0, .string ByteArray.empty, .string ByteArray.empty, .int .i64 0, .int .i64 0]) (t := 61) ?hr ?_; (case hd => rfl); (case hg => rfl); (case hr => first | (go_simp; done) | (go_simp; rfl)); intro g5 hg_ W1 hbox hb; have GE_g5 := ge1 hg_ HB; replace HB := bs HB hb; replace HO := bR HO hb; have BK_g5 := am hbox; have c_g5 := cf6 BK_g5; clear hb hbox hg_) | ((with_reducible refine gate_store (t := 61) (p := 5) rfl ?_); refine store_event (t := 61) (p := 5) (v := ?vo_W2_23) (w1 := ?w1_W2_24) ?hg ?ho ?hn ?hr ?_; (case ho => rfl); (case hg => rfl); (case hn => rfl); (case hr => first | (go_simp; done) | (go_simp; rfl)); intro W2 hw; have hk := kb6 hw; replace HO := am (Kd.R_mono (Kd.R_keep (Kd.R_types HO.out BK_g5.out (by decide)) hk (fun _ h_ => h_.2)) (fun _ h_ => h_.1)); replace HB := sb6 HB GE_g5 hw; (try clear c_g5); replace BK_g5 := bp6 BK_g5 hw; have c_g5 := cf6 BK_g5; clear hk hw) | (go_at_call 46; refine (ops_is a0 2 _ hop.out).mono ?_; rintro e W3 ⟨rfl, hb⟩; replace HB := bs HB hb; (try clear c_g5); replace BK_g5 := bb BK_g5 hb; have c_g5 := cf6 BK_g5; replace HO := bR HO hb; clear hb) | (go_at_call 47; refine (fields_is a0 a1 a2 a3 a4 a5 false _ (HG.out.below HB.out) hf.out).mono ?_; rintro e W4 ⟨rfl, hb⟩; replace HB := bs HB hb; (try clear c_g5); replace BK_g5 := bb BK_g5 hb; have c_g5 := cf6 BK_g5; replace HO := bR HO hb; clear hb))
    refine bodyPost_ret (v := .bool false) (by simp [results, Tryd.results27, go_sem, *]) rfl ⟨by rw [HE.out], HB.out⟩
   have hf := am hf0
   clear hf0
   obtain ⟨x, hx0⟩ : ∃ x, op.getD m 0 = x := ⟨_, rfl⟩
   obtain ⟨y, hy0⟩ : ∃ y, op.getD (m + 1) 0 = y := ⟨_, rfl⟩
   have HXM := am hx0
   have HYM := am hy0
   have hx := am (show aV 2 op = x from by rw [aV, if_neg (by omega), if_pos rfl, hm]; exact hx0)
   have hy := am (show bV 2 op = y from by rw [bV, if_pos rfl, hm]; exact hy0)
   clear hx0 hy0
   have s0 : wr.cell? ⟨gs, m, none⟩ = some (.int .i64 x) := by rw [← HXM.out]; exact (int_at HO.out m (by omega)).1
   have s1 : wr.cell? ⟨gs, m + 1, none⟩ = some (.int .i64 y) := by rw [← HYM.out]; exact (int_at HO.out (m + 1) (by omega)).1
   by_cases ha : a4 ≠ x
   ·have eA : (a4 != x) = true := by simpa using ha
    have HE := am (show treeV t = false from by rw [← HR.out]; exact tb3 HI.out hlt HDK.out hop.out hnl hf.out hx.out ha)
    go_wp2_with (first | ((with_reducible refine gate_dst (N := 5) rfl ?_); refine box_event ?hg (N := 5) ?hd (cs := #[.int .i64 0, .int .i64 0, .string ByteArray.empty, .string ByteArray.empty, .int .i64 0, .int .i64 0]) (t := 61) ?hr ?_; (case hd => rfl); (case hg => rfl); (case hr => first | (go_simp; done) | (go_simp; rfl)); intro g5 hg_ W1 hbox hb; have GE_g5 := ge1 hg_ HB; replace HB := bs HB hb; replace HO := bR HO hb; have BK_g5 := am hbox; have c_g5 := cf6 BK_g5; clear hb hbox hg_; (try clear s0); have s0 : W1.cell? ⟨gs, m, none⟩ = some (.int .i64 x) := (by rw [← HXM.out]; exact (int_at HO.out m (by omega)).1); (try clear s1); have s1 : W1.cell? ⟨gs, m + 1, none⟩ = some (.int .i64 y) := (by rw [← HYM.out]; exact (int_at HO.out (m + 1) (by omega)).1)) | ((with_reducible refine gate_store (t := 61) (p := 5) rfl ?_); refine store_event (t := 61) (p := 5) (v := ?vo_W2_25) (w1 := ?w1_W2_26) ?hg ?ho ?hn ?hr ?_; (case ho => rfl); (case hg => rfl); (case hn => rfl); (case hr => first | (go_simp; done) | (go_simp; rfl)); intro W2 hw; have hk := kb6 hw; replace HO := am (Kd.R_mono (Kd.R_keep (Kd.R_types HO.out BK_g5.out (by decide)) hk (fun _ h_ => h_.2)) (fun _ h_ => h_.1)); replace HB := sb6 HB GE_g5 hw; (try clear c_g5); replace BK_g5 := bp6 BK_g5 hw; have c_g5 := cf6 BK_g5; clear hk hw; (try clear s0); have s0 : W2.cell? ⟨gs, m, none⟩ = some (.int .i64 x) := (by rw [← HXM.out]; exact (int_at HO.out m (by omega)).1); (try clear s1); have s1 : W2.cell? ⟨gs, m + 1, none⟩ = some (.int .i64 y) := (by rw [← HYM.out]; exact (int_at HO.out (m + 1) (by omega)).1)) | (go_at_call 46; refine (ops_is a0 2 _ hop.out).mono ?_; rintro e W3 ⟨rfl, hb⟩; replace HB := bs HB hb; (try clear c_g5); replace BK_g5 := bb BK_g5 hb; have c_g5 := cf6 BK_g5; replace HO := bR HO hb; clear hb; (try clear s0); have s0 : W3.cell? ⟨gs, m, none⟩ = some (.int .i64 x) := (by rw [← HXM.out]; exact (int_at HO.out m (by omega)).1); (try clear s1); have s1 : W3.cell? ⟨gs, m + 1, none⟩ = some (.int .i64 y) := (by rw [← HYM.out]; exact (int_at HO.out (m + 1) (by omega)).1)) | (go_at_call 47; refine (fields_is a0 a1 a2 a3 a4 a5 true _ (HG.out.below HB.out) hf.out).mono ?_; rintro e W4 ⟨rfl, hb⟩; replace HB := bs HB hb; (try clear c_g5); replace BK_g5 := bb BK_g5 hb; have c_g5 := cf6 BK_g5; replace HO := bR HO hb; clear hb; (try clear s0); have s0 : W4.cell? ⟨gs, m, none⟩ = some (.int .i64 x) := (by rw [← HXM.out]; exact (int_at HO.out m (by omega)).1); (try clear s1); have s1 : W4.cell? ⟨gs, m + 1, none⟩ = some (.int .i64 y) := (by rw [← HYM.out]; exact (int_at HO.out (m + 1) (by omega)).1)))
    go_quiet (fail)
    generalize hWD : W4.drewN nq = W5
    have hb : Below W4.heap.size W4 W5 := by rw [← hWD]; exact pw_below_drewN (Below.refl _ _) nq
    clear hWD
    replace HB := bs HB hb
    (try clear c_g5)
    replace BK_g5 := bb BK_g5 hb
    have c_g5 := cf6 BK_g5
    replace HO := bR HO hb
    (try clear s0)
    have s0 : W5.cell? ⟨gs, m, none⟩ = some (.int .i64 x) := (by rw [← HXM.out]; exact (int_at HO.out m (by omega)).1)
    (try clear s1)
    have s1 : W5.cell? ⟨gs, m + 1, none⟩ = some (.int .i64 y) := (by rw [← HYM.out]; exact (int_at HO.out (m + 1) (by omega)).1)
    clear hb
    go_wp2
    refine bodyPost_ret (v := .bool false) (by simp [results, Tryd.results27, go_sem, *]) rfl ⟨by rw [HE.out], HB.out⟩
   have ha := Classical.not_not.1 ha
   by_cases hb_ : a5 ≠ y
   ·have HA := am ha
    clear ha
    have eA : (a4 != x) = false := by simp [HA.out]
    have eB : (a5 != y) = true := by simpa using hb_
    have HE := am (show treeV t = false from by rw [← HR.out]; exact tb4 HI.out hlt HDK.out hop.out hnl hf.out hx.out HA.out hy.out hb_)
    go_wp2_with (first | ((with_reducible refine gate_dst (N := 5) rfl ?_); refine box_event ?hg (N := 5) ?hd (cs := #[.int .i64 0, .int .i64 0, .string ByteArray.empty, .string ByteArray.empty, .int .i64 0, .int .i64 0]) (t := 61) ?hr ?_; (case hd => rfl); (case hg => rfl); (case hr => first | (go_simp; done) | (go_simp; rfl)); intro g5 hg_ W1 hbox hb; have GE_g5 := ge1 hg_ HB; replace HB := bs HB hb; replace HO := bR HO hb; have BK_g5 := am hbox; have c_g5 := cf6 BK_g5; clear hb hbox hg_; (try clear s0); have s0 : W1.cell? ⟨gs, m, none⟩ = some (.int .i64 x) := (by rw [← HXM.out]; exact (int_at HO.out m (by omega)).1); (try clear s1); have s1 : W1.cell? ⟨gs, m + 1, none⟩ = some (.int .i64 y) := (by rw [← HYM.out]; exact (int_at HO.out (m + 1) (by omega)).1)) | ((with_reducible refine gate_store (t := 61) (p := 5) rfl ?_); refine store_event (t := 61) (p := 5) (v := ?vo_W2_27) (w1 := ?w1_W2_28) ?hg ?ho ?hn ?hr ?_; (case ho => rfl); (case hg => rfl); (case hn => rfl); (case hr => first | (go_simp; done) | (go_simp; rfl)); intro W2 hw; have hk := kb6 hw; replace HO := am (Kd.R_mono (Kd.R_keep (Kd.R_types HO.out BK_g5.out (by decide)) hk (fun _ h_ => h_.2)) (fun _ h_ => h_.1)); replace HB := sb6 HB GE_g5 hw; (try clear c_g5); replace BK_g5 := bp6 BK_g5 hw; have c_g5 := cf6 BK_g5; clear hk hw; (try clear s0); have s0 : W2.cell? ⟨gs, m, none⟩ = some (.int .i64 x) := (by rw [← HXM.out]; exact (int_at HO.out m (by omega)).1); (try clear s1); have s1 : W2.cell? ⟨gs, m + 1, none⟩ = some (.int .i64 y) := (by rw [← HYM.out]; exact (int_at HO.out (m + 1) (by omega)).1)) | (go_at_call 46; refine (ops_is a0 2 _ hop.out).mono ?_; rintro e W3 ⟨rfl, hb⟩; replace HB := bs HB hb; (try clear c_g5); replace BK_g5 := bb BK_g5 hb; have c_g5 := cf6 BK_g5; replace HO := bR HO hb; clear hb; (try clear s0); have s0 : W3.cell? ⟨gs, m, none⟩ = some (.int .i64 x) := (by rw [← HXM.out]; exact (int_at HO.out m (by omega)).1); (try clear s1); have s1 : W3.cell? ⟨gs, m + 1, none⟩ = some (.int .i64 y) := (by rw [← HYM.out]; exact (int_at HO.out (m + 1) (by omega)).1)) | (go_at_call 47; refine (fields_is a0 a1 a2 a3 a4 a5 true _ (HG.out.below HB.out) hf.out).mono ?_; rintro e W4 ⟨rfl, hb⟩; replace HB := bs HB hb; (try clear c_g5); replace BK_g5 := bb BK_g5 hb; have c_g5 := cf6 BK_g5; replace HO := bR HO hb; clear hb; (try clear s0); have s0 : W4.cell? ⟨gs, m, none⟩ = some (.int .i64 x) := (by rw [← HXM.out]; exact (int_at HO.out m (by omega)).1); (try clear s1); have s1 : W4.cell? ⟨gs, m + 1, none⟩ = some (.int .i64 y) := (by rw [← HYM.out]; exact (int_at HO.out (m + 1) (by omega)).1)))
    go_quiet (fail)
    generalize hWD : W4.drewN nq = W5
    have hb : Below W4.heap.size W4 W5 := by rw [← hWD]; exact pw_below_drewN (Below.refl _ _) nq
    clear hWD
    replace HB := bs HB hb
    (try clear c_g5)
    replace BK_g5 := bb BK_g5 hb
    have c_g5 := cf6 BK_g5
    replace HO := bR HO hb
    (try clear s0)
    have s0 : W5.cell? ⟨gs, m, none⟩ = some (.int .i64 x) := (by rw [← HXM.out]; exact (int_at HO.out m (by omega)).1)
    (try clear s1)
    have s1 : W5.cell? ⟨gs, m + 1, none⟩ = some (.int .i64 y) := (by rw [← HYM.out]; exact (int_at HO.out (m + 1) (by omega)).1)
    clear hb
    go_wp2
    refine bodyPost_ret (v := .bool false) (by simp [results, Tryd.results27, go_sem, *]) rfl ⟨by rw [HE.out], HB.out⟩
   have hb_ := Classical.not_not.1 hb_
   obtain ⟨d', rfl, hgo⟩ := tgo (op := op) HI.out hlt HDK.out hop.out hnl hf.out hx.out ha hy.out hb_
   have HE := am (HR.out.symm.trans hgo)
   clear hgo
   have eA : (a4 != x) = false := by simp [ha]
   have eB : (a5 != y) = false := by simp [hb_]
   clear ha hb_
   go_wp2_with (first | ((with_reducible refine gate_dst (N := 5) rfl ?_); refine box_event ?hg (N := 5) ?hd (cs := #[.int .i64 0, .int .i64 0, .string ByteArray.empty, .string ByteArray.empty, .int .i64 0, .int .i64 0]) (t := 61) ?hr ?_; (case hd => rfl); (case hg => rfl); (case hr => first | (go_simp; done) | (go_simp; rfl)); intro g5 hg_ W1 hbox hb; have GE_g5 := ge1 hg_ HB; replace HB := bs HB hb; replace HO := bR HO hb; have BK_g5 := am hbox; have c_g5 := cf6 BK_g5; clear hb hbox hg_; (try clear s0); have s0 : W1.cell? ⟨gs, m, none⟩ = some (.int .i64 x) := (by rw [← HXM.out]; exact (int_at HO.out m (by omega)).1); (try clear s1); have s1 : W1.cell? ⟨gs, m + 1, none⟩ = some (.int .i64 y) := (by rw [← HYM.out]; exact (int_at HO.out (m + 1) (by omega)).1)) | ((with_reducible refine gate_store (t := 61) (p := 5) rfl ?_); refine store_event (t := 61) (p := 5) (v := ?vo_W2_29) (w1 := ?w1_W2_30) ?hg ?ho ?hn ?hr ?_; (case ho => rfl); (case hg => rfl); (case hn => rfl); (case hr => first | (go_simp; done) | (go_simp; rfl)); intro W2 hw; have hk := kb6 hw; replace HO := am (Kd.R_mono (Kd.R_keep (Kd.R_types HO.out BK_g5.out (by decide)) hk (fun _ h_ => h_.2)) (fun _ h_ => h_.1)); replace HB := sb6 HB GE_g5 hw; (try clear c_g5); replace BK_g5 := bp6 BK_g5 hw; have c_g5 := cf6 BK_g5; clear hk hw; (try clear s0); have s0 : W2.cell? ⟨gs, m, none⟩ = some (.int .i64 x) := (by rw [← HXM.out]; exact (int_at HO.out m (by omega)).1); (try clear s1); have s1 : W2.cell? ⟨gs, m + 1, none⟩ = some (.int .i64 y) := (by rw [← HYM.out]; exact (int_at HO.out (m + 1) (by omega)).1)) | (go_at_call 46; refine (ops_is a0 2 _ hop.out).mono ?_; rintro e W3 ⟨rfl, hb⟩; replace HB := bs HB hb; (try clear c_g5); replace BK_g5 := bb BK_g5 hb; have c_g5 := cf6 BK_g5; replace HO := bR HO hb; clear hb; (try clear s0); have s0 : W3.cell? ⟨gs, m, none⟩ = some (.int .i64 x) := (by rw [← HXM.out]; exact (int_at HO.out m (by omega)).1); (try clear s1); have s1 : W3.cell? ⟨gs, m + 1, none⟩ = some (.int .i64 y) := (by rw [← HYM.out]; exact (int_at HO.out (m + 1) (by omega)).1)) | (go_at_call 47; refine (fields_is a0 a1 a2 a3 a4 a5 true _ (HG.out.below HB.out) hf.out).mono ?_; rintro e W4 ⟨rfl, hb⟩; replace HB := bs HB hb; (try clear c_g5); replace BK_g5 := bb BK_g5 hb; have c_g5 := cf6 BK_g5; replace HO := bR HO hb; clear hb; (try clear s0); have s0 : W4.cell? ⟨gs, m, none⟩ = some (.int .i64 x) := (by rw [← HXM.out]; exact (int_at HO.out m (by omega)).1); (try clear s1); have s1 : W4.cell? ⟨gs, m + 1, none⟩ = some (.int .i64 y) := (by rw [← HYM.out]; exact (int_at HO.out (m + 1) (by omega)).1)))
   go_quiet (fail)
   generalize hWD : W4.drewN nq = W5
   have hb : Below W4.heap.size W4 W5 := by rw [← hWD]; exact pw_below_drewN (Below.refl _ _) nq
   clear hWD
   replace HB := bs HB hb
   (try clear c_g5)
   replace BK_g5 := bb BK_g5 hb
   have c_g5 := cf6 BK_g5
   replace HO := bR HO hb
   (try clear s0)
   have s0 : W5.cell? ⟨gs, m, none⟩ = some (.int .i64 x) := (by rw [← HXM.out]; exact (int_at HO.out m (by omega)).1)
   (try clear s1)
   have s1 : W5.cell? ⟨gs, m + 1, none⟩ = some (.int .i64 y) := (by rw [← HYM.out]; exact (int_at HO.out (m + 1) (by omega)).1)
   clear hb
   go_wp2_with (first | ((with_reducible refine gate_builtin (b := .append) (xs := #[.tmp 70, .tmp 72]) rfl ?_); at_builtin; refine Kd.R_append (Kd.int .i64) (w0 := w) w.heap.size rfl (.tmp 70) (.tmp 72) 48 3 (.int .i64 0) 8 rfl Tryd.underlying48 info3 rfl (by decide) (by omega) _ (op.take m) (k : Int) [.int .i64 (k : Int)] (fun _ => True) (fun _ => False) rfl ?aX ?aP (fun _ hk => hk.elim) ?aF (Kd.R_take HO.out (by omega)) HB.out (below_size HB.out) ?aL ?_; (case aX => first | rfl | (show Value.slice _ _ _ = Value.slice _ _ _; simp)); (case aP => exact rfl); (case aF => exact (fun _ _ => trivial)); (case aL => (try simp only [List.length_take]); have := HX.out; have := HK.out; have := HS.out; omega); intro v_ W6 ho hb hg hat_; have HB9 := am hb; have HO9 := am ho; clear hat_ ho hb hg))
   go_roundw
   case rel => exact ⟨k + 1, d', _, by first | rfl | go_num, by omega, ⟨by have := HDK.out; omega⟩, ⟨HE.out.symm.trans (by rfl)⟩, ⟨by rw [show op.length - (2 : Int).toNat = m from by rw [hm]; rfl]; exact HO9.out⟩, ⟨by simp only [List.length_append, List.length_take, List.length_singleton]; have := HX.out; omega⟩, HB9⟩
   case measure => exact mu2_ hlt (by rw [eK]; exact Int.lt_succ _)
  have HE := am (show treeV t = ((op.length : Int) == 1) from by rw [← HR.out, treeL_end hlt]; rw [Bool.eq_iff_iff]; simp; omega)
  obtain ⟨AS, cp, rfl⟩ := Kd.R_slice HO.out
  have eD : decide ((k : Int) < (t.length : Int)) = false := by simp; omega
  go_wp2
  refine bodyPost_ret (v := .bool ((op.length : Int) == 1)) (by simp [results, Tryd.results27, go_sem, *]) rfl ⟨by rw [HE.out], HB.out⟩
end Go.Proofs.YtbhpjpeknooppaaDoor.M
