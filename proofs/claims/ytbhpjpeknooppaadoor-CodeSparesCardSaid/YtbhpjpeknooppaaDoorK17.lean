/- What the arguments and the listed variables read as, within the form's reach. No Go is walked here. -/
import Derived.Test.YtbhpjpeknooppaaDoorK06
import Derived.Test.YtbhpjpeknooppaaDoorK08
import Derived.LaidMore
import Derived.OpenShut
import Derived.ProofKit
import Derived.SizedLaws
import Derived.Test.YtbhpjpeknooppaaDoorRows
namespace Go.Proofs.YtbhpjpeknooppaaDoor.M
open Go.RowKit Go.Proofs.YtbhpjpeknooppaaDoorW.PrintWords Go.Proofs.YtbhpjpeknooppaaDoorW.PrintLast Go.Proofs.YtbhpjpeknooppaaDoorW.PrintMore
open Go.Proofs.YtbhpjpeknooppaaDoor.PCodeSpares
open Go.ChangeShapes Go.WideShapes Go.ChangeAt
set_option linter.unusedVariables false
theorem list_of {α : Type} (Q : Nat → α → Prop) : ∀ n, (∀ i, i < n → ∃ a, Q i a) → ∃ xs : List α, xs.length = n ∧ ∀ i a, xs[i]? = some a → Q i a
 | 0, _ => ⟨[], rfl, fun i a h => by simp at h⟩
 | n + 1, h => by
  obtain ⟨xs, hl, hx⟩ := list_of Q n (fun i hi => h i (by omega))
  obtain ⟨a, ha⟩ := h n (by omega)
  refine ⟨xs ++ [a], by rw [List.length_append, hl]; rfl, fun i b hb => ?_⟩
  by_cases hi : i < xs.length
  ·rw [List.getElem?_append_left hi] at hb
   exact hx i b hb
  rw [List.getElem?_append_right (by omega)] at hb
  have h0 : i - xs.length = 0 := by
   rcases Nat.eq_zero_or_pos (i - xs.length) with h0 | h0
   ·exact h0
   rw [List.getElem?_eq_none (by simp; omega)] at hb
   cases hb
  rw [h0] at hb
  cases hb
  obtain rfl : i = n := by omega
  exact ha
theorem weights_all {H : Type} {P : Program} {e : TypeId} : ∀ {ds : List (DataW H)} {d : DataW H}, d ∈ ds → ∀ n ∈ d.weights P e, n ∈ DataW.weightsAll P e ds
 | d0 :: r, d, hd, n, hn => by
  simp only [DataW.weightsAll, List.mem_append]
  rcases List.mem_cons.1 hd with rfl | hd
  ·exact .inl hn
  exact .inr (weights_all hd n hn)
def Opn {α : Type} (d : Kd α) (t : Nat) (B : α → Prop) : Prop :=
 ∀ {H : Type} {enc : TypeId × Value → H} {W : World} {base : Nat} {spare : Nat → Bool} {held : Bool} {fuel : Nat} {cs : List Value} {x : DataW H × List MemPlace},
  DataW.trod enc Tryd.prog W base spare held fuel t cs = some x → (∀ n ∈ x.1.weights Tryd.prog t, n ≤ reachBytes) → ∃ a, d.K W a cs ∧ B a
def Pc {H : Type} (enc : TypeId × Value → H) (W : World) (base : Nat) (spare : Nat → Bool) (held : Bool) (cs : List Value) (f : Nat × Nat) : Prop :=
 ∃ n y, DataW.trod enc Tryd.prog W base spare held n f.1 ((cs.drop f.2).take (Tryd.prog.cellsOf f.1)) = some y ∧ ∀ m ∈ y.1.weights Tryd.prog f.1, m ≤ reachBytes
def OpnF {α : Type} (d : Kd α) (fs : List (Nat × Nat)) (off : Nat) (B : α → Prop) : Prop :=
 ∀ {H : Type} {enc : TypeId × Value → H} {W : World} {base : Nat} {spare : Nat → Bool} {held : Bool} {cs : List Value},
  (∀ f ∈ fs, Pc enc W base spare held cs f) → cs.length = off + d.sz → ∃ a, d.K W a (cs.drop off) ∧ B a
section
variable {α β : Type} {d : Kd α} {d2 : Kd β} {t e b : Nat} {k : IntKind} {B : α → Prop} {B2 : β → Prop}
theorem opn_int (ht : Tryd.prog.underlying t = some (.int k)) : Opn (Kd.int k) t (fun n => (Lit.int k n).wf = true) := fun h _ => by
 obtain ⟨n, rfl, _, hw⟩ := DataW.trod_int ht h
 exact ⟨n, rfl, hw⟩
theorem opn_bool (ht : Tryd.prog.underlying t = some .bool) : Opn Kd.bool t (fun _ => True) := fun h _ => by
 obtain ⟨n, rfl, _⟩ := DataW.trod_bool ht h
 exact ⟨n, rfl, trivial⟩
theorem opn_string (ht : Tryd.prog.underlying t = some .string) : Opn Kd.string t (fun _ => True) := fun h _ => by
 obtain ⟨s, rfl, _, _⟩ := DataW.trod_string ht h
 exact ⟨s, rfl, trivial⟩
theorem opn_slice (ht : Tryd.prog.underlying t = some (.slice e)) (hc : Tryd.prog.cellsOf e = d.sz) (hb : Tryd.prog.bytesOf e = b) (h : Opn d e B) : Opn (Kd.slice e d) t (fun xs => xs.length * b ≤ reachBytes ∧ ∀ x ∈ xs, B x) := fun h0 hw => by
 rcases DataW.trod_slice ht h0 with ⟨rfl, rfl⟩ | ⟨a, len, cap, elems, rest, n, rfl, rfl, rfl, hbase, hl, hcm, hlen, hel, _, _⟩
 ·exact ⟨[], ⟨none, 0, rfl, Nat.le_refl _, Kd.C_nil _ _⟩, by simp, fun x hx => absurd hx List.not_mem_nil⟩
 simp only [DataW.weights, ht, hb] at hw
 have hlen2 : len * b ≤ reachBytes := by
  have := hw ((elems.map (·.1)).length * b + (rest.map (·.1)).length * b) (by rw [← Nat.add_mul]; exact List.mem_cons_self)
  rw [List.length_map, hlen] at this
  omega
 obtain ⟨xs, hxl, hx⟩ := list_of (fun i p => ∃ c : List Value, c.length = d.sz ∧ d.K _ p c ∧ (∀ j u, c[j]? = some u → World.cell? _ (a.add (i * d.sz + j)) = some u) ∧ B p) len (fun i hi => by
  have hE := hel i hi
  have hil : i < elems.length := by omega
  rw [List.getElem?_eq_getElem hil, Option.bind_eq_some_iff] at hE
  obtain ⟨c, hc1, hy⟩ := hE
  obtain ⟨_, hcl, hcell⟩ := World.cells?_some hc1
  obtain ⟨p, hK, hB⟩ := h hy (fun m hm => hw m (List.mem_cons_of_mem _ (List.mem_append_left _ (weights_all (List.mem_map_of_mem (List.getElem_mem hil)) m hm))))
  refine ⟨p, c, hcl.trans hc, hK, fun j u hu => ?_, hB⟩
  have hj : j < Tryd.prog.cellsOf e := by rw [← hcl]; exact (List.getElem?_eq_some_iff.1 hu).1
  have := hcell j hj
  rw [hu, add_add, hc] at this
  exact this)
 have hBs : ∀ x ∈ xs, B x := fun x hm => by
  obtain ⟨i, hi, rfl⟩ := List.mem_iff_getElem.1 hm
  obtain ⟨_, _, _, _, hB⟩ := hx i _ (List.getElem?_eq_getElem hi)
  exact hB
 refine ⟨xs, ⟨some a, cap, by rw [hxl], by rw [hxl]; exact hl, rfl, ?_, fun _ => ⟨a, rfl, fun j p hp => ?_⟩⟩, by rw [hxl]; exact hlen2, hBs⟩
 ·rw [hxl]
  simp only [maxLen] at hcm
  omega
 obtain ⟨c, h1, h2, h3, _⟩ := hx j p hp
 exact ⟨c, h1, h2, h3⟩
theorem opnF_one {f : Nat × Nat} (h : Opn d f.1 B) (hc : Tryd.prog.cellsOf f.1 = d.sz) : OpnF d [f] f.2 B := fun hf hl => by
 obtain ⟨n, y, hy, hw⟩ := hf f List.mem_cons_self
 rw [List.take_of_length_le (by rw [List.length_drop, hc]; omega)] at hy
 exact h hy hw
theorem opnF_cons {f : Nat × Nat} {fs : List (Nat × Nat)} (h : Opn d f.1 B) (hc : Tryd.prog.cellsOf f.1 = d.sz) (h2 : OpnF d2 fs (f.2 + d.sz) B2) : OpnF (Kd.pair d d2) (f :: fs) f.2 (fun x => B x.1 ∧ B2 x.2) := fun {_ _ _ _ _ _ cs} hf hl => by
 have hl' : cs.length = f.2 + d.sz + d2.sz := by rw [hl, Nat.add_assoc]; rfl
 obtain ⟨n, y, hy, hw⟩ := hf f List.mem_cons_self
 obtain ⟨a, hK, hB⟩ := h hy hw
 obtain ⟨a2, hK2, hB2⟩ := h2 (fun g hg => hf g (List.mem_cons_of_mem _ hg)) hl'
 rw [hc] at hK
 exact ⟨(a, a2), ⟨_, _, by rw [← List.drop_drop, List.take_append_drop], hK, hK2⟩, hB, hB2⟩
theorem opn_fields {fs : Array Field} {l : List (Nat × Nat)} (ht : Tryd.prog.underlying t = some (.struct fs)) (hcl : Tryd.prog.cellsOf t = d.sz) (h : OpnF d l 0 B)
  (hl : ∀ {H : Type} {enc : TypeId × Value → H} {W : World} {base : Nat} {spare : Nat → Bool} {held : Bool} {cs : List Value}, (∀ f ∈ fs.toList, Pc enc W base spare held cs (f.type, f.offset)) → ∀ g ∈ l, Pc enc W base spare held cs g) : Opn d t B := fun h0 hw => by
 obtain ⟨xs, n, rfl, rfl, hlen, hxl, hx⟩ := DataW.trod_struct ht h0
 simp only [DataW.weights, ht] at hw
 have := h (hl (fun f hf => by
  obtain ⟨i, hi, hfi⟩ := List.mem_iff_getElem.1 hf
  have hi' : i < fs.size := by simpa using hi
  have e1 : fs[i]? = some f := by rw [Array.getElem?_eq_getElem hi', ← hfi]; simp
  have e2 := hx i f e1
  rw [List.getElem?_eq_getElem (by omega)] at e2
  refine ⟨n, _, e2, fun m hm => hw m (DataW.weights_mem_each (j := i) (t := f.type) (d := (xs[i]'(by omega)).1) ?_ ?_ m hm)⟩
  ·rw [List.getElem?_map, ← Array.getElem?_toList] at *
   simp [e1]
  rw [List.getElem?_map, List.getElem?_eq_getElem (by omega)]
  rfl)) (by rw [hlen, hcl, Nat.zero_add])
 rw [List.drop_zero] at this
 exact this
theorem opn_struct {fs : Array Field} (ht : Tryd.prog.underlying t = some (.struct fs)) (hcl : Tryd.prog.cellsOf t = d.sz) (h : OpnF d (fs.toList.map fun f => (f.type, f.offset)) 0 B) : Opn d t B :=
 opn_fields ht hcl h (fun hf g hg => by
  obtain ⟨f, hfm, rfl⟩ := List.mem_map.1 hg
  exact hf f hfm)
theorem opn_iso {f : β → α} {g : α → β} (hfg : ∀ a, f (g a) = a) (h : Opn d t B) : Opn (Kd.iso d f) t (fun x => B (f x)) := fun h0 hw => by
 obtain ⟨a, hK, hB⟩ := h h0 hw
 exact ⟨g a, (by show d.K _ (f (g a)) _; rw [hfg]; exact hK), by show B (f (g a)); rw [hfg]; exact hB⟩
theorem opn_mono {B' : α → Prop} (h : Opn d t B) (hb : ∀ a, B a → B' a) : Opn d t B' := fun h0 hw => by
 obtain ⟨a, hK, hB⟩ := h h0 hw
 exact ⟨a, hK, hb a hB⟩
theorem pc_array {H : Type} {enc : TypeId × Value → H} {W : World} {base : Nat} {spare : Nat → Bool} {held : Bool} {cs : List Value} {off n : Nat} (ht : Tryd.prog.underlying t = some (.array n e)) (hc : Tryd.prog.cellsOf e = 1) (hc2 : Tryd.prog.cellsOf t = n) (h : Pc enc W base spare held cs (t, off)) (i : Nat) (hi : i < n) : Pc enc W base spare held cs (e, off + i) := by
 obtain ⟨f, y, hy, hw⟩ := h
 obtain ⟨xs, m, rfl, rfl, hl, hxl, hx⟩ := DataW.trod_array ht hy
 have e1 := hx i hi
 rw [List.getElem?_eq_getElem (by omega)] at e1
 simp only [DataW.weights, ht] at hw
 refine ⟨m, xs[i]'(by omega), ?_, fun q hq => hw q (weights_all (List.mem_map_of_mem (List.getElem_mem _)) q hq)⟩
 rw [← e1]
 show DataW.trod enc Tryd.prog W base spare held m e ((cs.drop (off + i)).take (Tryd.prog.cellsOf e)) = DataW.trod enc Tryd.prog W base spare held m e ((((cs.drop off).take (Tryd.prog.cellsOf t)).drop (i * Tryd.prog.cellsOf e)).take (Tryd.prog.cellsOf e))
 rw [hc, hc2, Nat.mul_one, List.drop_take, List.take_take, List.drop_drop, Nat.min_eq_left (by omega)]
end
theorem o2 : Opn (Kd.int .i64) 2 (fun n => (Lit.int .i64 n).wf = true) := opn_int Tryd.underlying2
theorem o3 : Opn (Kd.int .i64) 3 (fun n => (Lit.int .i64 n).wf = true) := opn_int Tryd.underlying3
theorem o9 : Opn Kd.string 9 (fun _ => True) := opn_string Tryd.underlying9
theorem o63 : Opn (Kd.slice 9 Kd.string) 63 (fun _ => True) := opn_mono (opn_slice Tryd.underlying63 (by kernel_rfl) rfl o9) (fun _ _ => trivial)
theorem o65 : Opn k65 65 (fun _ => True) := opn_mono (opn_iso (g := fun x => (⟨x.1, x.2⟩ : S65)) (fun _ => rfl) (opn_struct Tryd.underlying65 (by kernel_rfl) (opnF_cons (f := (9, 0)) o9 (by kernel_rfl) (opnF_one (f := (63, 1)) o63 (by kernel_rfl))))) (fun _ _ => trivial)
theorem o61 : Opn k61 61 (fun _ => True) := opn_mono (opn_iso (g := fun x => (⟨x.1, x.2.1, x.2.2.1, x.2.2.2.1, x.2.2.2.2.1, x.2.2.2.2.2⟩ : S61)) (fun _ => rfl) (opn_struct Tryd.underlying61 (by kernel_rfl)
 (opnF_cons (f := (59, 0)) (opn_int Tryd.underlying59) (by kernel_rfl) (opnF_cons (f := (2, 1)) o2 (by kernel_rfl) (opnF_cons (f := (9, 2)) o9 (by kernel_rfl) (opnF_cons (f := (9, 3)) o9 (by kernel_rfl) (opnF_cons (f := (3, 4)) o3 (by kernel_rfl) (opnF_one (f := (3, 5)) o3 (by kernel_rfl))))))))) (fun _ _ => trivial)
theorem o67 : Opn k67 67 (fun _ => True) := opn_mono (opn_iso (g := fun x => (⟨x.1, x.2.1, x.2.2.1, x.2.2.2.1, x.2.2.2.2⟩ : S67)) (fun _ => rfl) (opn_struct Tryd.underlying67 (by kernel_rfl)
 (opnF_cons (f := (4, 0)) (opn_bool Tryd.underlying4) (by kernel_rfl) (opnF_cons (f := (63, 1)) o63 (by kernel_rfl) (opnF_cons (f := (9, 2)) o9 (by kernel_rfl) (opnF_cons (f := (3, 3)) o3 (by kernel_rfl) (opnF_one (f := (3, 4)) o3 (by kernel_rfl)))))))) (fun _ _ => trivial)
theorem o28 : Opn (Kd.slice 61 k61) 28 (fun xs => xs.length * 64 ≤ reachBytes ∧ ∀ x ∈ xs, True) := opn_slice Tryd.underlying28 (by kernel_rfl) (by kernel_rfl) o61
theorem o29 : Opn (Kd.slice 28 (Kd.slice 61 k61)) 29 (fun xs => xs.length * 24 ≤ reachBytes ∧ ∀ x ∈ xs, x.length * 64 ≤ reachBytes ∧ ∀ y ∈ x, True) := opn_slice Tryd.underlying29 (by kernel_rfl) (by kernel_rfl) o28
theorem o22 : Opn (Kd.slice 65 k65) 22 (fun xs => xs.length * 40 ≤ reachBytes ∧ ∀ x ∈ xs, True) := opn_slice Tryd.underlying22 (by kernel_rfl) (by kernel_rfl) o65
theorem o25 : Opn (Kd.slice 67 k67) 25 (fun xs => xs.length * 64 ≤ reachBytes ∧ ∀ x ∈ xs, True) := opn_slice Tryd.underlying25 (by kernel_rfl) (by kernel_rfl) o67
theorem o24 : Opn (Kd.slice 65 k65) 24 (fun xs => xs.length * 40 ≤ reachBytes ∧ ∀ x ∈ xs, True) := opn_struct Tryd.underlying24 (by kernel_rfl) (opnF_one (f := (22, 0)) o22 (by kernel_rfl))
theorem o73 : Opn k73 73 (fun _ => True) := opn_mono (opn_iso (g := fun x => (⟨x.1, x.2.1, x.2.2.1, x.2.2.2.1, x.2.2.2.2.1, x.2.2.2.2.2.1, x.2.2.2.2.2.2.1, x.2.2.2.2.2.2.2.1, x.2.2.2.2.2.2.2.2.1, x.2.2.2.2.2.2.2.2.2.1, x.2.2.2.2.2.2.2.2.2.2⟩ : S73)) (fun _ => rfl)
 (opn_fields Tryd.underlying73 (by kernel_rfl)
  (opnF_cons (f := (2, 0)) o2 (by kernel_rfl) (opnF_cons (f := (71, 1)) (opn_int Tryd.underlying71) (by kernel_rfl) (opnF_cons (f := (3, 2)) o3 (by kernel_rfl) (opnF_cons (f := (2, 3)) o2 (by kernel_rfl) (opnF_cons (f := (2, 4)) o2 (by kernel_rfl) (opnF_cons (f := (2, 5)) o2 (by kernel_rfl) (opnF_cons (f := (2, 6)) o2 (by kernel_rfl) (opnF_cons (f := (2, 7)) o2 (by kernel_rfl) (opnF_cons (f := (2, 8)) o2 (by kernel_rfl) (opnF_cons (f := (2, 9)) o2 (by kernel_rfl) (opnF_one (f := (2, 10)) o2 (by kernel_rfl))))))))))))
  (fun hf g hg => by
   have h0 := hf _ (List.Mem.head _)
   have h1 := hf _ (List.Mem.tail _ (List.Mem.head _))
   have h2 := hf _ (List.Mem.tail _ (List.Mem.tail _ (List.Mem.head _)))
   have h3 := pc_array Tryd.underlying70 (by kernel_rfl) (by kernel_rfl) (hf _ (List.Mem.tail _ (List.Mem.tail _ (List.Mem.tail _ (List.Mem.head _)))))
   simp only [List.mem_cons, List.not_mem_nil, or_false] at hg
   rcases hg with rfl | rfl | rfl | rfl | rfl | rfl | rfl | rfl | rfl | rfl | rfl
   ·exact h0
   ·exact h1
   ·exact h2
   ·exact h3 0 (by decide)
   ·exact h3 1 (by decide)
   ·exact h3 2 (by decide)
   ·exact h3 3 (by decide)
   ·exact h3 4 (by decide)
   ·exact h3 5 (by decide)
   ·exact h3 6 (by decide)
   exact h3 7 (by decide)))) (fun _ _ => trivial)
theorem o62 : Opn (Kd.slice 73 k73) 62 (fun _ => True) := opn_mono (opn_slice Tryd.underlying62 (by kernel_rfl) rfl o73) (fun _ _ => trivial)
theorem o32 : Opn (Kd.slice 62 (Kd.slice 73 k73)) 32 (fun xs => xs.length * 24 ≤ reachBytes ∧ ∀ x ∈ xs, True) := opn_slice Tryd.underlying32 (by kernel_rfl) (by kernel_rfl) o62
theorem o31 : Opn (Kd.pair (Kd.slice 67 k67) (Kd.pair (Kd.int .i64) (Kd.pair (Kd.int .i64) (Kd.pair (Kd.slice 61 k61) (Kd.pair (Kd.int .i64) (Kd.pair Kd.string (Kd.slice 28 (Kd.slice 61 k61)))))))) 31 (fun x => x.1.length * 64 ≤ reachBytes ∧ x.2.2.2.1.length * 64 ≤ reachBytes ∧ x.2.2.2.2.2.2.length * 24 ≤ reachBytes ∧ ∀ y ∈ x.2.2.2.2.2.2, y.length * 64 ≤ reachBytes) := opn_mono (opn_struct Tryd.underlying31 (by kernel_rfl)
 (opnF_cons (f := (25, 0)) o25 (by kernel_rfl) (opnF_cons (f := (26, 1)) (opn_int Tryd.underlying26) (by kernel_rfl) (opnF_cons (f := (27, 2)) (opn_int Tryd.underlying27) (by kernel_rfl) (opnF_cons (f := (28, 3)) o28 (by kernel_rfl) (opnF_cons (f := (2, 4)) o2 (by kernel_rfl) (opnF_cons (f := (9, 5)) o9 (by kernel_rfl) (opnF_one (f := (29, 6)) o29 (by kernel_rfl))))))))) (fun _ h => ⟨h.1.1, h.2.2.2.1.1, h.2.2.2.2.2.2.1, fun y hy => (h.2.2.2.2.2.2.2 y hy).1⟩)
theorem o34 : Opn (Kd.pair (Kd.slice 62 (Kd.slice 73 k73)) (Kd.pair (Kd.int .i64) (Kd.int .i64))) 34 (fun x => x.1.length * 24 ≤ reachBytes ∧ (Lit.int .i64 x.2.2).wf = true) := opn_mono (opn_struct Tryd.underlying34 (by kernel_rfl)
 (opnF_cons (f := (32, 0)) o32 (by kernel_rfl) (opnF_cons (f := (3, 1)) o3 (by kernel_rfl) (opnF_one (f := (3, 2)) o3 (by kernel_rfl))))) (fun _ h => ⟨h.1.1, h.2.2⟩)
def valD {H : Type} : Nat → DataW H → List Value
 | _ + 1, .lit (.bool b) => [.bool b]
 | _ + 1, .lit (.int k n) => [.int k n]
 | _ + 1, .lit (.string l) => [.string ⟨l.toArray⟩]
 | n + 1, .agg ps => ps.flatMap (valD n)
 | _, _ => []
def Fl (n t : Nat) : Prop :=
 ∀ {H : Type} {enc : TypeId × Value → H} {W : World} {base : Nat} {spare : Nat → Bool} {held : Bool} {fuel : Nat} {cs : List Value} {x : DataW H × List MemPlace},
  DataW.trod enc Tryd.prog W base spare held fuel t cs = some x → cs = valD n x.1
theorem fl_int {n t : Nat} {k : IntKind} (ht : Tryd.prog.underlying t = some (.int k)) : Fl (n + 1) t := fun h => by
 obtain ⟨m, rfl, rfl, _⟩ := DataW.trod_int ht h
 rfl
theorem fl_bool {n t : Nat} (ht : Tryd.prog.underlying t = some .bool) : Fl (n + 1) t := fun h => by
 obtain ⟨m, rfl, rfl⟩ := DataW.trod_bool ht h
 rfl
theorem fl_string {n t : Nat} (ht : Tryd.prog.underlying t = some .string) : Fl (n + 1) t := fun h => by
 obtain ⟨⟨m⟩, rfl, rfl, _⟩ := DataW.trod_string ht h
 rfl
theorem chunks {α : Type} {k : Nat} (v : α → List Value) : ∀ (xs : List α) (cs : List Value), cs.length = xs.length * k → (∀ i y, xs[i]? = some y → (cs.drop (i * k)).take k = v y) → cs = xs.flatMap v
 | [], cs, hl, _ => by
  rw [List.length_nil, Nat.zero_mul] at hl
  rw [List.eq_nil_of_length_eq_zero hl]
  rfl
 | y :: xs, cs, hl, h => by
  have h0 := h 0 y rfl
  rw [Nat.zero_mul, List.drop_zero] at h0
  rw [List.length_cons, Nat.succ_mul] at hl
  have h1 := chunks (k := k) v xs (cs.drop k) (by rw [List.length_drop]; omega) (fun i z hz => by
   have := h (i + 1) z hz
   rw [Nat.succ_mul, Nat.add_comm, ← List.drop_drop] at this
   exact this)
  rw [List.flatMap_cons, ← h0, ← h1, List.take_append_drop]
theorem fl_array {n m t e k : Nat} (ht : Tryd.prog.underlying t = some (.array m e)) (hc : Tryd.prog.cellsOf e = k) (hc2 : Tryd.prog.cellsOf t = m * k) (h : Fl n e) : Fl (n + 1) t := fun h0 => by
 obtain ⟨xs, _, rfl, rfl, hl, hxl, hx⟩ := DataW.trod_array ht h0
 show _ = (xs.map (·.1)).flatMap (valD n)
 rw [List.flatMap_map]
 refine chunks _ xs _ (by rw [hl, hc2, hxl]) (fun i y hy => ?_)
 have hi : i < m := by rw [← hxl]; exact (List.getElem?_eq_some_iff.1 hy).1
 have := hx i hi
 rw [hy] at this
 have h2 := h this
 rw [hc] at h2
 exact h2
theorem fl_val {n : Nat} : Fl (n + 2) 50 := fun {_ _ _ _ _ _ _ cs _} h0 => by
 obtain ⟨xs, m, rfl, rfl, hl, hxl, hx⟩ := DataW.trod_struct Tryd.underlying50 h0
 show _ = (xs.map (·.1)).flatMap (valD (n + 1))
 rw [List.flatMap_map]
 have c50 : Tryd.prog.cellsOf 50 = 2 := by kernel_rfl
 have c4 : Tryd.prog.cellsOf 4 = 1 := by kernel_rfl
 have c2 : Tryd.prog.cellsOf 2 = 1 := by kernel_rfl
 have hxl2 : xs.length = 2 := hxl
 refine chunks (k := 1) _ xs _ (by rw [hl, c50, hxl2]) (fun i y hy => ?_)
 have hi : i < 2 := by rw [← hxl2]; exact (List.getElem?_eq_some_iff.1 hy).1
 match i, hi, hy with
 | 0, _, hy =>
  have h1 : DataW.trod _ Tryd.prog _ _ _ _ m 4 ((cs.drop 0).take (Tryd.prog.cellsOf 4)) = xs[0]? := hx 0 _ rfl
  rw [hy, c4] at h1
  exact fl_bool (n := n) Tryd.underlying4 h1
 | 1, _, hy =>
  have h1 : DataW.trod _ Tryd.prog _ _ _ _ m 2 ((cs.drop 1).take (Tryd.prog.cellsOf 2)) = xs[1]? := hx 1 _ rfl
  rw [hy, c2] at h1
  exact fl_int (n := n) Tryd.underlying2 h1
theorem f86 : Fl 2 86 := fl_array (k := 1) Tryd.underlying86 (by kernel_rfl) (by kernel_rfl) (fl_int Tryd.underlying3)
theorem f125 : Fl 2 125 := fl_array (k := 1) Tryd.underlying125 (by kernel_rfl) (by kernel_rfl) (fl_string Tryd.underlying9)
theorem f103 : Fl 3 103 := fl_array (k := 2) Tryd.underlying103 (by kernel_rfl) (by kernel_rfl) fl_val
theorem f117 : Fl 4 117 := fl_array (k := 6) Tryd.underlying117 (by kernel_rfl) (by kernel_rfl) f103
theorem var_at {W : World} {name : String} {g : Nat} {cs : Array Value} {l : List Value} (hg : Tryd.prog.globalNamed name = some g) (hv : W.var? Tryd.prog name = some cs) (he : cs.toList = l) (i : Nat) : W.cell? ⟨g, i, none⟩ = l[i]? := by
 rw [World.var?_cell hg hv i, ← he, Array.getElem?_toList]
theorem glob_of {W : World} (h : laidMetH Tryd.prog Rows.codeSparesRow.laid W) : Glob W ∧ GlobK W := by
 rw [MakeChecks.laidMetH_plain _ _ _ (by kernel_rfl)] at h
 obtain ⟨ps, h0, _, _⟩ := h
 obtain ⟨g0, t0, cs0, f0, p0, q0, hg0, ht0, hv0, hd0, h1, _⟩ := h0
 have eg0 : Tryd.prog.globalNamed "sluice/api.Keywords" = some 7 := by kernel_rfl
 obtain rfl := Option.some.inj (eg0.symm.trans hg0)
 have et0 : (Tryd.prog.globals[7]?).map (·.type) = some 125 := by kernel_rfl
 obtain rfl := Option.some.inj (et0.symm.trans ht0)
 have el0 : cs0.toList = (List.range 27).map fun i => Value.string (kwS i) := ((f125) hd0).trans rfl
 have c0 := fun i => var_at hg0 hv0 el0 i
 obtain ⟨g1, t1, cs1, f1, p1, q1, hg1, ht1, hv1, hd1, h2, _⟩ := h1
 have eg1 : Tryd.prog.globalNamed "sluice/num.no" = some 6 := by kernel_rfl
 obtain rfl := Option.some.inj (eg1.symm.trans hg1)
 have et1 : (Tryd.prog.globals[6]?).map (·.type) = some 50 := by kernel_rfl
 obtain rfl := Option.some.inj (et1.symm.trans ht1)
 have el1 : cs1.toList = vcs [(true, 0)] := ((fl_val (n := 0)) hd1).trans rfl
 have c1 := fun i => var_at hg1 hv1 el1 i
 obtain ⟨g2, t2, cs2, f2, p2, q2, hg2, ht2, hv2, hd2, h3, _⟩ := h2
 have eg2 : Tryd.prog.globalNamed "sluice/num.unknown" = some 1 := by kernel_rfl
 obtain rfl := Option.some.inj (eg2.symm.trans hg2)
 have et2 : (Tryd.prog.globals[1]?).map (·.type) = some 50 := by kernel_rfl
 obtain rfl := Option.some.inj (et2.symm.trans ht2)
 have el2 : cs2.toList = vcs [(false, 0)] := ((fl_val (n := 0)) hd2).trans rfl
 have c2 := fun i => var_at hg2 hv2 el2 i
 obtain ⟨g3, t3, cs3, f3, p3, q3, hg3, ht3, hv3, hd3, h4, _⟩ := h3
 have eg3 : Tryd.prog.globalNamed "sluice/num.yes" = some 5 := by kernel_rfl
 obtain rfl := Option.some.inj (eg3.symm.trans hg3)
 have et3 : (Tryd.prog.globals[5]?).map (·.type) = some 50 := by kernel_rfl
 obtain rfl := Option.some.inj (et3.symm.trans ht3)
 have el3 : cs3.toList = vcs [(true, 1)] := ((fl_val (n := 0)) hd3).trans rfl
 have c3 := fun i => var_at hg3 hv3 el3 i
 obtain ⟨g4, t4, cs4, f4, p4, q4, hg4, ht4, hv4, hd4, h5, _⟩ := h4
 have eg4 : Tryd.prog.globalNamed "sluice/num.both" = some 3 := by kernel_rfl
 obtain rfl := Option.some.inj (eg4.symm.trans hg4)
 have et4 : (Tryd.prog.globals[3]?).map (·.type) = some 117 := by kernel_rfl
 obtain rfl := Option.some.inj (et4.symm.trans ht4)
 have el4 : cs4.toList = vcs tBoth := ((f117) hd4).trans rfl
 have c4 := fun i => var_at hg4 hv4 el4 i
 obtain ⟨g5, t5, cs5, f5, p5, q5, hg5, ht5, hv5, hd5, h6, _⟩ := h5
 have eg5 : Tryd.prog.globalNamed "sluice/num.either" = some 4 := by kernel_rfl
 obtain rfl := Option.some.inj (eg5.symm.trans hg5)
 have et5 : (Tryd.prog.globals[4]?).map (·.type) = some 117 := by kernel_rfl
 obtain rfl := Option.some.inj (et5.symm.trans ht5)
 have el5 : cs5.toList = vcs tEither := ((f117) hd5).trans rfl
 have c5 := fun i => var_at hg5 hv5 el5 i
 obtain ⟨g6, t6, cs6, f6, p6, q6, hg6, ht6, hv6, hd6, h7, _⟩ := h6
 have eg6 : Tryd.prog.globalNamed "sluice/num.other" = some 2 := by kernel_rfl
 obtain rfl := Option.some.inj (eg6.symm.trans hg6)
 have et6 : (Tryd.prog.globals[2]?).map (·.type) = some 103 := by kernel_rfl
 obtain rfl := Option.some.inj (et6.symm.trans ht6)
 have el6 : cs6.toList = vcs tOther := ((f103) hd6).trans rfl
 have c6 := fun i => var_at hg6 hv6 el6 i
 obtain ⟨g7, t7, cs7, f7, p7, q7, hg7, ht7, hv7, hd7, h8, _⟩ := h7
 have eg7 : Tryd.prog.globalNamed "sluice/code.operands" = some 0 := by kernel_rfl
 obtain rfl := Option.some.inj (eg7.symm.trans hg7)
 have et7 : (Tryd.prog.globals[0]?).map (·.type) = some 86 := by kernel_rfl
 obtain rfl := Option.some.inj (et7.symm.trans ht7)
 have el7 : cs7.toList = tOperands.map (Value.int .i64) := ((f86) hd7).trans rfl
 have c7 := fun i => var_at hg7 hv7 el7 i
 have hs : 8 ≤ W.heap.size := by
  have h := World.block_lt_of_cell? W ⟨7, 0, none⟩ ((c0 0).trans rfl)
  exact h
 refine ⟨⟨hs, fun i hi => ?_, fun i _ => c2 i, fun i _ => c6 i, fun i _ => c4 i, fun i _ => c5 i, fun i _ => c3 i, fun i _ => c1 i⟩, hs, fun i hi => ?_⟩
 ·rw [c7 i, List.getElem?_map, List.getD_eq_getElem?_getD, List.getElem?_eq_getElem (show i < tOperands.length from hi)]
  rfl
 rw [c0 i, List.getElem?_map, List.getElem?_range hi]
 rfl
end Go.Proofs.YtbhpjpeknooppaaDoor.M
