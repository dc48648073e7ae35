/- The contracts of event.upper, event.IsName and show.fields. Conditions: the keywords read as laid. -/
import Derived.Test.YtbhpjpeknooppaaDoorK04
import Derived.Test.YtbhpjpeknooppaaDoorK06
import Derived.BigQuiet
import Derived.Deep.QuietTactic
import Derived.IntWalk
import Derived.Laws.IdiomStrings
import Derived.Laws.RangeAny
import Derived.LoopTactic
import Derived.WalkMore
namespace Go.Proofs.YtbhpjpeknooppaaDoor.M
open Go.RowKit Go.Proofs.YtbhpjpeknooppaaDoorW.PrintWords Go.Proofs.YtbhpjpeknooppaaDoorW.PrintLast Go.Proofs.YtbhpjpeknooppaaDoorW.PrintMore
open Go.Proofs.YtbhpjpeknooppaaDoor.PCodeSpares
set_option linter.unusedVariables false
set_option linter.unusedSimpArgs false
def up8 (c : UInt8) : UInt8 := if 97 ≤ c.toNat ∧ c.toNat ≤ 122 then UInt8.ofNat (c.toNat - 32) else c
def upS (s : ByteArray) : ByteArray := ⟨(s.data.toList.map up8).toArray⟩
def midB (s : ByteArray) (k j : Nat) : Int := if j < k then ((up8 (s.data.toList.getD j 0)).toNat : Int) else ((s.data.toList.getD j 0).toNat : Int)
theorem dlen (s : ByteArray) : s.data.toList.length = s.size := by rw [Array.length_toList]; rfl
theorem bytes_of (w : World) (s : ByteArray) : ∃ (g cap : Nat) (W1 : World), (convert 9 127 (.string s)).run Tryd.prog w = .ok (.slice (some ⟨g, 0, none⟩) s.size cap) W1 ∧ w.heap.size ≤ g ∧ Below w.heap.size w W1 ∧
  (∀ j, j < s.size → W1.cell? ⟨g, j, none⟩ = some (.int .u8 (midB s 0 j))) ∧ (∀ j, j < s.size → W1.frozen? ⟨g, j, none⟩ = false) := by
 have h := run_bytes_of_string (P := Tryd.prog) w 9 127 5 s Tryd.underlying9 Tryd.underlying127 Tryd.underlying5
 refine ⟨_, _, _, h, Nat.le_refl _, ?_, ?_, ?_⟩
 ·exact (below_drew1 (Below.refl _ _)).alloc (Nat.le_refl _) _
 ·intro j hj
  have hj' : j < s.data.toList.length := by rw [dlen]; exact hj
  have hd : j < s.data.size := by rw [← Array.length_toList]; exact hj'
  refine (World.cell?_alloc_mark w.drew _ _ _ j).trans ?_
  unfold bytesRow
  rw [Array.getElem?_append_left (by rw [Array.size_map]; exact hd), Array.getElem?_map, Array.getElem?_eq_getElem hd]
  simp only [midB, Nat.not_lt_zero, if_false, Option.map_some]
  rw [List.getD_eq_getElem?_getD, List.getElem?_eq_getElem hj', Option.getD_some, Array.getElem_toList]
 intro j hj
 refine (World.frozen?_alloc_mark w.drew _ _ _ _ j).trans ?_
 have hd : j < s.data.size := hj
 have : ¬ (bytesRow s (grownCap w s.size 0 5)).size ≤ j := by
  unfold bytesRow
  rw [Array.size_append, Array.size_map]
  omega
 simp [this]
theorem bytes_back (W : World) (g cap : Nat) (s : ByteArray) (h : ∀ j, j < s.size → W.cell? ⟨g, j, none⟩ = some (.int .u8 (midB s s.size j))) :
  (convert 127 9 (.slice (some ⟨g, 0, none⟩) s.size cap)).run Tryd.prog W = .ok (.string (upS s)) W := by
 have hl : (s.data.toList.map up8).length = s.size := by rw [List.length_map, dlen]
 have := run_convert_bytes_back (P := Tryd.prog) W 127 9 5 ⟨g, 0, none⟩ cap (s.data.toList.map up8) Tryd.underlying127 Tryd.underlying5 Tryd.underlying9 (fun j hj => by
  have hj' : j < s.size := by omega
  have hx := h j hj'
  rw [show (⟨g, 0, none⟩ : Addr).add j = ⟨g, j, none⟩ from add_plain _ _, hx]
  simp only [midB, if_pos hj', List.getElem_map]
  rw [List.getD_eq_getElem?_getD, List.getElem?_eq_getElem (by rw [dlen]; exact hj'), Option.getD_some])
 rw [hl] at this
 exact this
theorem midB_step (s : ByteArray) (k j : Nat) (h : j ≠ k) : midB s (k + 1) j = midB s k j := by
 simp only [midB]
 by_cases hj : j < k
 ·rw [if_pos hj, if_pos (by omega)]
 rw [if_neg hj, if_neg (by omega)]
theorem upper_sub (c : UInt8) (h0 : 97 ≤ c.toNat) (h1 : c.toNat ≤ 122) : ((up8 c).toNat : Int) = (c.toNat : Int) - 32 := by
 unfold up8
 rw [if_pos ⟨h0, h1⟩, UInt8.toNat_ofNat_of_lt' (by show c.toNat - 32 < 256; omega)]
 omega
theorem up8_same (c : UInt8) (h : ¬ (97 ≤ c.toNat ∧ c.toNat ≤ 122)) : up8 c = c := if_neg h
theorem midB_same (s : ByteArray) (k : Nat) (h : up8 (s.data.toList.getD k 0) = s.data.toList.getD k 0) (j : Nat) : midB s (k + 1) j = midB s k j := by
 by_cases hj : j = k
 ·subst hj
  simp only [midB]
  rw [if_pos (Nat.lt_succ_self _), if_neg (Nat.lt_irrefl _), h]
 exact midB_step s k j hj
theorem midB_put (s : ByteArray) (k : Nat) : midB s (k + 1) k = ((up8 (s.data.toList.getD k 0)).toNat : Int) := if_pos (Nat.lt_succ_self _)
set_option maxHeartbeats 2000000 in
set_option maxRecDepth 100000 in
theorem event_upper (s : ByteArray) (w : World) (hsz : s.size ≤ 4398046511104) :
  Calls Tryd.prog 58 #[.string s] w fun e w' => e = .returned (.string (upS s)) ∧ Below w.heap.size w w' := by
 obtain ⟨g, cap, W1, hconv, hg, hb1, hc1, hf1⟩ := bytes_of w s
 have HC := am hc1
 have HF := am hf1
 have HB := am hb1
 have HG := am hg
 clear hc1 hf1 hb1 hg
 go_enter Tryd.func58, Tryd.ntmps58
 go_wp2
 go_loopw [10] (fun i w' => ∃ k : Nat, i = .int .i64 k ∧ k ≤ s.size ∧ Aside0 (∀ j, j < s.size → w'.cell? ⟨g, j, none⟩ = some (.int .u8 (midB s k j))) ∧ Aside0 (∀ j, j < s.size → w'.frozen? ⟨g, j, none⟩ = false) ∧ Aside0 (Below w.heap.size w w')) (fun i _ => s.size - (intOf i).toNat)
 case atStart => exact ⟨0, rfl, Nat.zero_le _, HC, HF, HB⟩
 case round =>
  clear hconv HC HF HB
  obtain ⟨k, rfl, hk, HC, HF, HB⟩ := hrel
  by_cases hlt : k < s.size
  ·have c0 := HC.out k hlt
   have f0 := HF.out k hlt
   have hm : midB s k k = ((s.data.toList.getD k 0).toNat : Int) := if_neg (Nat.lt_irrefl k)
   rw [hm] at c0
   obtain ⟨x, hx⟩ : ∃ x, x = s.data.toList.getD k 0 := ⟨_, rfl⟩
   rw [← hx] at c0
   have HX := am hx
   clear hx hm
   have eK : wrap64 ((k : Int) + 1) = (k : Int) + 1 := IntWalk.wrap64_in _ (by omega)
   by_cases h0 : 97 ≤ x.toNat
   ·have e0 : decide ((97 : Int) ≤ (x.toNat : Int)) = true := by simp; omega
    by_cases h1 : x.toNat ≤ 122
    ·have e1 : decide ((x.toNat : Int) ≤ 122) = true := by simp; omega
     have eW : IntKind.u8.wrap ((x.toNat : Int) - 97) = (x.toNat : Int) - 97 := by show ((x.toNat : Int) - 97) % 256 = _; omega
     have eV : IntKind.u8.wrap ((x.toNat : Int) - 97 + 65) = (x.toNat : Int) - 32 := by show ((x.toNat : Int) - 97 + 65) % 256 = _; omega
     go_wp2
     go_roundw
     case rel =>
      refine ⟨k + 1, by first | rfl | go_num, by omega, ⟨fun j hj => ?_⟩, ⟨fun j hj => ?_⟩, ⟨below_set HB.out HG.out⟩⟩
      ·by_cases hjk : j = k
       ·subst hjk
        rw [World.cell?_setCell_same (h := c0), midB_put, ← HX.out, upper_sub x h0 h1]
       rw [World.cell?_setCell_other (h := fun e => by injection e with _ e2; exact hjk e2.symm), HC.out j hj, midB_step s k j hjk]
      rw [World.frozen?_setCell]; exact HF.out j hj
     case measure => simp [intOf]; omega
    have e1 : decide ((x.toNat : Int) ≤ 122) = false := by simp; omega
    go_wp2
    go_roundw
    case rel => exact ⟨k + 1, by first | rfl | go_num, by omega, ⟨fun j hj => by rw [midB_same s k (by rw [← HX.out]; exact up8_same x (by omega)) j]; exact HC.out j hj⟩, HF, HB⟩
    case measure => simp [intOf]; omega
   have e0 : decide ((97 : Int) ≤ (x.toNat : Int)) = false := by simp; omega
   go_wp2
   go_roundw
   case rel => exact ⟨k + 1, by first | rfl | go_num, by omega, ⟨fun j hj => by rw [midB_same s k (by rw [← HX.out]; exact up8_same x (by omega)) j]; exact HC.out j hj⟩, HF, HB⟩
   case measure => simp [intOf]; omega
  have hkk : k = s.size := by omega
  subst hkk
  have hback := bytes_back wr g cap s HC.out
  go_wp2
  refine bodyPost_ret (v := .string (upS s)) (by simp [results, Tryd.results58, go_sem, *]) rfl ⟨rfl, ?_⟩
  exact HB.out
end Go.Proofs.YtbhpjpeknooppaaDoor.M
namespace Go.Proofs.YtbhpjpeknooppaaDoor.M
open Go.RowKit Go.Proofs.YtbhpjpeknooppaaDoorW.PrintWords Go.Proofs.YtbhpjpeknooppaaDoorW.PrintLast Go.Proofs.YtbhpjpeknooppaaDoorW.PrintMore
open Go.Proofs.YtbhpjpeknooppaaDoor.PCodeSpares
set_option linter.unusedVariables false
set_option linter.unusedSimpArgs false
def kwN : List (List UInt8) := [[80, 65, 84, 84, 69, 82, 78], [83, 69, 81], [85, 83, 73, 78, 71], [65, 78, 89], [78, 69, 88, 84], [83, 84, 82, 73, 67, 84], [87, 72, 69, 82, 69], [87, 73, 84, 72, 73, 78], [80, 65, 82, 84, 73, 84, 73, 79, 78], [66, 89], [82, 69, 84, 85, 82, 78], [65, 78, 68], [79, 82], [78, 79, 84], [84, 82, 85, 69], [70, 65, 76, 83, 69], [67, 79, 85, 78, 84], [83, 85, 77], [77, 73, 78], [77, 65, 88], [70, 73, 82, 83, 84], [76, 65, 83, 84], [80, 82, 69, 86], [65, 70, 84, 69, 82], [65, 76, 76], [80, 65, 83, 84], [79, 78, 67, 69]]
def kwS (i : Nat) : ByteArray := ⟨(kwN.getD i []).toArray⟩
def GlobK (w : World) : Prop := 8 ≤ w.heap.size ∧ ∀ i, i < 27 → w.cell? ⟨7, i, none⟩ = some (.string (kwS i))
theorem GlobK.below {w w1 : World} (G : GlobK w) (hb : Below w.heap.size w w1) : GlobK w1 :=
 ⟨by have := hb.size; have := G.1; omega, fun i hi => (hb.cell (p := ⟨7, i, none⟩) (by show 7 < _; have := G.1; omega)).trans (G.2 i hi)⟩
def wordV (c : Int) : Bool := (event_wordByte.f c).getD false
theorem wordV_f (c : Int) : event_wordByte.f c = some (wordV c) := by
 unfold wordV event_wordByte.f
 split <;> (try split) <;> (try split) <;> (try split) <;> (try split) <;> (try split) <;> rfl
def runesV (s : ByteArray) : Nat → Nat → Bool
 | 0, _ => true
 | b + 1, pos => if pos < s.size then (if wordV ((Utf8.decode s pos).1 : Int) then runesV s b (pos + (Utf8.decode s pos).2) else false) else true
theorem width_pos (s : ByteArray) (pos : Nat) (h : pos < s.size) : 1 ≤ (Utf8.decode s pos).2 := by
 by_cases ha : (s[pos]'h).toNat < 128
 ·rw [decode_ascii s pos h ha]
  exact Nat.le_refl _
 exact (decode_high s pos h (by omega)).2
theorem runesV_end (s : ByteArray) (b pos : Nat) (h : ¬ pos < s.size) : runesV s b pos = true := by
 cases b with
 | zero => rfl
 | succ b => simp [runesV, h]
def kwV (u : ByteArray) : Nat → Nat → Bool
 | 0, _ => true
 | b + 1, k => if k < 27 then (if u = kwS k then false else kwV u b (k + 1)) else true
def b0 (s : ByteArray) : Nat := if h : 0 < s.size then (s[0]'h).toNat else 0
def nameV (s : ByteArray) : Bool := if s = ⟨#[]⟩ ∨ 16 < s.size ∨ (48 ≤ b0 s ∧ b0 s ≤ 57) then false else if runesV s s.size 0 then kwV (upS s) 27 0 else false
theorem below_iter {w w0 : World} (h : Below w.heap.size w w0) (s : ByteArray) (pos : Nat) : Below w.heap.size w (w0.iter s pos) := below_alloc h _
theorem next_any (w : World) (w0 : World) (hz : w0.heap.size = w.heap.size) (s : ByteArray) (pos : Nat) (ty : TypeId) (h : pos < s.size) :
  (Instr.next (.pointer (some ⟨w.heap.size, 0, none⟩)) true ty).run Tryd.prog (w0.iter s pos) = .ok (.tuple #[.bool true, .int .i64 pos, .int .i32 ((Utf8.decode s pos).1)]) (w0.iter s (pos + (Utf8.decode s pos).2)) := by
 have := run_next_any (P := Tryd.prog) w0 s pos ty h
 rw [hz] at this
 exact this
theorem next_end (w : World) (w0 : World) (hz : w0.heap.size = w.heap.size) (s : ByteArray) (pos : Nat) (ty : TypeId) (h : ¬ pos < s.size) :
  (Instr.next (.pointer (some ⟨w.heap.size, 0, none⟩)) true ty).run Tryd.prog (w0.iter s pos) = .ok (.tuple #[.bool false]) (w0.iter s pos) := by
 have := run_next_end (P := Tryd.prog) w0 s pos ty h
 rw [hz] at this
 exact this
theorem toList_inj {a b : ByteArray} (h : a.toList = b.toList) : a = b := by
 rw [ByteArray.toList_eq, ByteArray.toList_eq] at h
 cases a with
 | mk x => cases b with
  | mk y => exact congrArg ByteArray.mk (Array.toList_inj.1 h)
theorem mu27 {k : Nat} {x : Int} (h : k < 27) (hx : (k : Int) < x) : 27 - (intOf (.int .i64 x)).toNat < 27 - (intOf (.int .i64 (k : Int))).toNat := by
 simp only [intOf, Int.toNat_natCast]
 omega
theorem it_lt {w w0 : World} {s : ByteArray} {pos n : Nat} (hp : pos < s.size) (hwd : 1 ≤ n) (hz : w0.heap.size = w.heap.size) (nn : Nat) :
  s.size - ((w0.iter s (pos + n)).drewN nn).iterPos w.heap.size < s.size - (w0.iter s pos).iterPos w.heap.size := by
 rw [← hz, World.iterPos_iter, show ((w0.iter s (pos + n)).drewN nn).iterPos w0.heap.size = pos + n from World.iterPos_iter (w0.drewN nn) s (pos + n)]
 omega
def KWA : Array Value := ((List.range 27).map fun i => Value.string (kwS i)).toArray
theorem KWA_at (k : Nat) (h : k < 27) : KWA[k]? = some (.string (kwS k)) := by
 unfold KWA
 rw [List.getElem?_toArray, List.getElem?_map, List.getElem?_range h]
 rfl
theorem load_kw_op {a : Act} {o : Oper} (ho : o.op = .load 125 (.global 7)) (W : World) (G : GlobK W) : (execOp a.eval o).run Tryd.prog W = .ok (.value (.agg KWA)) W := by
 have hl := run_loadCells (P := Tryd.prog) W ⟨7, 0, none⟩ 27 (fun i => Value.string (kwS i)) (fun j hj => by rw [add_plain]; exact G.2 j hj)
 have hv : (loadVar 125 ⟨7, 0, none⟩).run Tryd.prog W = .ok (.agg KWA) W := by
  have h1 : (isAgg 125 : Sem Bool).run Tryd.prog W = .ok true W := by simp [isAgg, go_sem]
  have h2 : (sizeOf 125 : Sem Nat).run Tryd.prog W = .ok 27 W := by simp [sizeOf, go_sem]; rfl
  unfold loadVar
  rw [Sem.run_bind, h1, Result.andThen_ok]
  simp only [if_true]
  rw [Sem.run_bind, h2, Result.andThen_ok, Sem.run_bind, hl, Result.andThen_ok]
  rfl
 unfold execOp
 simp only [ho]
 show (Instr.loadAt 125 (.pointer (some ⟨7, 0, none⟩)) >>= fun x => pure (Next.value x) : Sem Next).run Tryd.prog W = _
 unfold Instr.loadAt
 rw [Sem.run_bind]
 have hs : (Instr.sureAddr (.pointer (some ⟨7, 0, none⟩)) >>= fun x => loadVar 125 x : Sem Value).run Tryd.prog W = .ok (.agg KWA) W := by
  rw [Sem.run_bind]
  simp only [Instr.sureAddr, Sem.run_pure, Result.andThen_ok]
  exact hv
 rw [hs]
 rfl
theorem idx_kw (W : World) (k : Nat) (h : k < 27) : (Instr.index 125 (.agg KWA) (.int .i64 k)).run Tryd.prog W = .ok (.string (kwS k)) W := by
 have hk := KWA_at k h
 have h2 : ((k : Int) < 27) := by omega
 simp [Instr.index, go_sem, hk, h2]
 intro hx
 omega
set_option maxHeartbeats 4000000 in
set_option maxRecDepth 100000 in
theorem event_IsName (s : ByteArray) (w : World) (G : GlobK w) :
  Calls Tryd.prog 54 #[.string s] w fun e w' => e = .returned (.bool (nameV s)) ∧ Below w.heap.size w w' := by
 have HG := am G
 clear G
 by_cases h0 : s = ⟨#[]⟩
 ·subst h0
  go_enter Tryd.func54, Tryd.ntmps54
  go_wp2
  refine bodyPost_ret (v := .bool false) (by simp [results, Tryd.results54, go_sem, *]) rfl ⟨rfl, Below.refl _ _⟩
 have hs : 0 < s.size := by
  refine Nat.pos_of_ne_zero fun h => h0 ?_
  cases s with
  | mk d => exact congrArg ByteArray.mk (Array.eq_empty_of_size_eq_zero h)
 have e0 : s.toList.isEmpty = false := by
  rw [ByteArray.toList_eq]
  cases hl : s.data.toList with
  | nil => have := dlen s; rw [hl] at this; simp at this; omega
  | cons _ _ => rfl
 by_cases h16 : 16 < s.size
 ·have e16 : decide ((16 : Int) < (s.size : Int)) = true := by simp; omega
  have HE := am (show nameV s = false from if_pos (.inr (.inl h16)))
  go_enter Tryd.func54, Tryd.ntmps54
  go_wp2
  refine bodyPost_ret (v := .bool false) (by simp [results, Tryd.results54, go_sem, *]) rfl ⟨by rw [HE.out], Below.refl _ _⟩
 have e16 : decide ((16 : Int) < (s.size : Int)) = false := by simp; omega
 have hb0 : b0 s = (s[0]'hs).toNat := dif_pos hs
 by_cases d1 : 48 ≤ (s[0]'hs).toNat
 ·have e1 : decide ((48 : Int) ≤ ((s[0]'hs).toNat : Int)) = true := by simp; omega
  by_cases d2 : (s[0]'hs).toNat ≤ 57
  ·have e2 : decide (((s[0]'hs).toNat : Int) ≤ 57) = true := by simp; omega
   have HE := am (show nameV s = false from if_pos (.inr (.inr (by omega))))
   clear hb0
   go_enter Tryd.func54, Tryd.ntmps54
   go_wp2
   refine bodyPost_ret (v := .bool false) (by simp [results, Tryd.results54, go_sem, *]) rfl ⟨by rw [HE.out], Below.refl _ _⟩
  have e2 : decide (((s[0]'hs).toNat : Int) ≤ 57) = false := by simp; omega
  have hno : ¬ (s = ⟨#[]⟩ ∨ 16 < s.size ∨ (48 ≤ b0 s ∧ b0 s ≤ 57)) := fun h => h.elim h0 (fun h => h.elim h16 (fun h => by omega))
  clear hb0
  go_enter Tryd.func54, Tryd.ntmps54
  go_wp2
  go_loopw [27] (fun _ w' => ∃ (pos b : Nat) (w0 : World), w' = w0.iter s pos ∧ Aside0 (w0.heap.size = w.heap.size) ∧ Aside0 (Below w.heap.size w w0) ∧ Aside0 (runesV s b pos = runesV s s.size 0) ∧ s.size ≤ pos + b) (fun _ w' => s.size - w'.iterPos w.heap.size)
  case atStart => exact ⟨0, s.size, w, rfl, ⟨rfl⟩, ⟨Below.refl _ _⟩, ⟨rfl⟩, by omega⟩
  case round =>
   obtain ⟨pos, b, w0, rfl, HZ, HB, HR, hb⟩ := hrel
   by_cases hp : pos < s.size
   ·have hnx := fun ty => next_any w w0 HZ.out s pos ty hp
    have hwd := width_pos s pos hp
    obtain ⟨b, rfl⟩ : ∃ b', b = b' + 1 := ⟨b - 1, by omega⟩
    obtain ⟨r, hr⟩ : ∃ r, r = Utf8.decode s pos := ⟨_, rfl⟩
    rw [← hr] at hnx hwd
    have HQ := am hr
    clear hr
    have HU := am (show runesV s (b + 1) pos = if wordV (r.1 : Int) then runesV s b (pos + r.2) else false from by rw [runesV, if_pos hp, ← HQ.out])
    cases hw : wordV (r.1 : Int)
    ·have HE := am (show nameV s = false from by unfold nameV; rw [if_neg hno, ← HR.out, HU.out, hw]; rfl)
     go_wp2_with (go_at_call 57; refine (event_wordByte.calls _ _ _ (wordV_f _)).mono ?_; rintro e w1 ⟨rfl, hd⟩; obtain ⟨⟨nn, rfl⟩⟩ := hd)
     refine bodyPost_ret (v := .bool false) (by simp [results, Tryd.results54, go_sem, *]) rfl ⟨by rw [HE.out], ?_⟩
     exact pw_below_drewN (below_iter HB.out s _) _
    go_wp2_with (go_at_call 57; refine (event_wordByte.calls _ _ _ (wordV_f _)).mono ?_; rintro e w1 ⟨rfl, hd⟩; obtain ⟨⟨nn, rfl⟩⟩ := hd)
    go_roundw
    case rel => exact ⟨pos + r.2, b, w0.drewN nn, rfl, ⟨HZ.out⟩, ⟨pw_below_drewN HB.out nn⟩, ⟨HR.out.symm ▸ (HU.out.trans (if_pos hw)).symm⟩, by omega⟩
    case measure => exact it_lt hp hwd HZ.out nn
   have hnx := fun ty => next_end w w0 HZ.out s pos ty hp
   have HV := am (HR.out.symm.trans (runesV_end s b pos hp))
   have HA := am (show nameV s = kwV (upS s) 27 0 from by unfold nameV; rw [if_neg hno, HV.out]; rfl)
   have HB1 := am (below_iter HB.out s pos)
   go_wp2_with (first | ((with_reducible refine gate_dst (N := 35) rfl ?_); refine Kd.event_run rfl (load_kw_op rfl _ HG2.out) ?_) | (go_at_call 58; refine (event_upper s _ (by omega)).mono ?_; rintro e w1 ⟨rfl, hb1⟩; have HB2 := am (below_step HB1.out hb1); have HG2 := am (HG.out.below HB2.out); clear hb1))
   go_loop [36] (fun i => ∃ k b : Nat, i = .int .i64 k ∧ k ≤ 27 ∧ 27 ≤ k + b ∧ Aside0 (kwV (upS s) b k = kwV (upS s) 27 0)) (fun i => 27 - (intOf i).toNat)
   case atStart => exact ⟨0, 27, rfl, by omega, by omega, ⟨rfl⟩⟩
   case round =>
    obtain ⟨k, b, rfl, hk, hkb, HK⟩ := hrel
    by_cases hlt : k < 27
    ·have eK : wrap64 ((k : Int) + 1) = (k : Int) + 1 := IntWalk.wrap64_in _ (by omega)
     have eD : decide ((k : Int) < 27) = true := by simp; omega
     have hix := idx_kw w1 k hlt
     obtain ⟨b, rfl⟩ : ∃ b', b = b' + 1 := ⟨b - 1, by omega⟩
     have HU := am (show kwV (upS s) (b + 1) k = if upS s = kwS k then false else kwV (upS s) b (k + 1) from by rw [kwV, if_pos hlt])
     by_cases hq : upS s = kwS k
     ·have HE := am (show nameV s = false from by rw [HA.out, ← HK.out, HU.out, if_pos hq])
      have hq2 : ((upS s).toList == (kwS k).toList) = true := by rw [hq]; exact beq_self_eq_true _
      go_wp2
      refine bodyPost_ret (v := .bool false) (by simp [results, Tryd.results54, go_sem, *]) rfl ⟨by rw [HE.out], ?_⟩
      exact HB2.out
     have hq2 : ((upS s).toList == (kwS k).toList) = false := beq_eq_false_iff_ne.mpr (fun h => hq (toList_inj h))
     go_wp2
     refine ⟨⟨k + 1, b, by first | rfl | go_num | (congr 1; omega), by omega, by omega, ⟨HK.out.symm ▸ (HU.out.trans (if_neg hq)).symm⟩⟩, ?_⟩
     exact mu27 hlt (by omega)
    have hk27 : k = 27 := by omega
    subst hk27
    have HE := am (show nameV s = true from by rw [HA.out, ← HK.out]; cases b <;> simp [kwV])
    go_wp2
    refine bodyPost_ret (v := .bool true) (by simp [results, Tryd.results54, go_sem, *]) rfl ⟨by rw [HE.out], ?_⟩
    exact HB2.out
 have e1 : decide ((48 : Int) ≤ ((s[0]'hs).toNat : Int)) = false := by simp; omega
 have hno : ¬ (s = ⟨#[]⟩ ∨ 16 < s.size ∨ (48 ≤ b0 s ∧ b0 s ≤ 57)) := fun h => h.elim h0 (fun h => h.elim h16 (fun h => by omega))
 clear hb0
 go_enter Tryd.func54, Tryd.ntmps54
 go_wp2
 go_loopw [27] (fun _ w' => ∃ (pos b : Nat) (w0 : World), w' = w0.iter s pos ∧ Aside0 (w0.heap.size = w.heap.size) ∧ Aside0 (Below w.heap.size w w0) ∧ Aside0 (runesV s b pos = runesV s s.size 0) ∧ s.size ≤ pos + b) (fun _ w' => s.size - w'.iterPos w.heap.size)
 case atStart => exact ⟨0, s.size, w, rfl, ⟨rfl⟩, ⟨Below.refl _ _⟩, ⟨rfl⟩, by omega⟩
 case round =>
  obtain ⟨pos, b, w0, rfl, HZ, HB, HR, hb⟩ := hrel
  by_cases hp : pos < s.size
  ·have hnx := fun ty => next_any w w0 HZ.out s pos ty hp
   have hwd := width_pos s pos hp
   obtain ⟨b, rfl⟩ : ∃ b', b = b' + 1 := ⟨b - 1, by omega⟩
   obtain ⟨r, hr⟩ : ∃ r, r = Utf8.decode s pos := ⟨_, rfl⟩
   rw [← hr] at hnx hwd
   have HQ := am hr
   clear hr
   have HU := am (show runesV s (b + 1) pos = if wordV (r.1 : Int) then runesV s b (pos + r.2) else false from by rw [runesV, if_pos hp, ← HQ.out])
   cases hw : wordV (r.1 : Int)
   ·have HE := am (show nameV s = false from by unfold nameV; rw [if_neg hno, ← HR.out, HU.out, hw]; rfl)
    go_wp2_with (go_at_call 57; refine (event_wordByte.calls _ _ _ (wordV_f _)).mono ?_; rintro e w1 ⟨rfl, hd⟩; obtain ⟨⟨nn, rfl⟩⟩ := hd)
    refine bodyPost_ret (v := .bool false) (by simp [results, Tryd.results54, go_sem, *]) rfl ⟨by rw [HE.out], ?_⟩
    exact pw_below_drewN (below_iter HB.out s _) _
   go_wp2_with (go_at_call 57; refine (event_wordByte.calls _ _ _ (wordV_f _)).mono ?_; rintro e w1 ⟨rfl, hd⟩; obtain ⟨⟨nn, rfl⟩⟩ := hd)
   go_roundw
   case rel => exact ⟨pos + r.2, b, w0.drewN nn, rfl, ⟨HZ.out⟩, ⟨pw_below_drewN HB.out nn⟩, ⟨HR.out.symm ▸ (HU.out.trans (if_pos hw)).symm⟩, by omega⟩
   case measure => exact it_lt hp hwd HZ.out nn
  have hnx := fun ty => next_end w w0 HZ.out s pos ty hp
  have HV := am (HR.out.symm.trans (runesV_end s b pos hp))
  have HA := am (show nameV s = kwV (upS s) 27 0 from by unfold nameV; rw [if_neg hno, HV.out]; rfl)
  have HB1 := am (below_iter HB.out s pos)
  go_wp2_with (first | ((with_reducible refine gate_dst (N := 35) rfl ?_); refine Kd.event_run rfl (load_kw_op rfl _ HG2.out) ?_) | (go_at_call 58; refine (event_upper s _ (by omega)).mono ?_; rintro e w1 ⟨rfl, hb1⟩; have HB2 := am (below_step HB1.out hb1); have HG2 := am (HG.out.below HB2.out); clear hb1))
  go_loop [36] (fun i => ∃ k b : Nat, i = .int .i64 k ∧ k ≤ 27 ∧ 27 ≤ k + b ∧ Aside0 (kwV (upS s) b k = kwV (upS s) 27 0)) (fun i => 27 - (intOf i).toNat)
  case atStart => exact ⟨0, 27, rfl, by omega, by omega, ⟨rfl⟩⟩
  case round =>
   obtain ⟨k, b, rfl, hk, hkb, HK⟩ := hrel
   by_cases hlt : k < 27
   ·have eK : wrap64 ((k : Int) + 1) = (k : Int) + 1 := IntWalk.wrap64_in _ (by omega)
    have eD : decide ((k : Int) < 27) = true := by simp; omega
    have hix := idx_kw w1 k hlt
    obtain ⟨b, rfl⟩ : ∃ b', b = b' + 1 := ⟨b - 1, by omega⟩
    have HU := am (show kwV (upS s) (b + 1) k = if upS s = kwS k then false else kwV (upS s) b (k + 1) from by rw [kwV, if_pos hlt])
    by_cases hq : upS s = kwS k
    ·have HE := am (show nameV s = false from by rw [HA.out, ← HK.out, HU.out, if_pos hq])
     have hq2 : ((upS s).toList == (kwS k).toList) = true := by rw [hq]; exact beq_self_eq_true _
     go_wp2
     refine bodyPost_ret (v := .bool false) (by simp [results, Tryd.results54, go_sem, *]) rfl ⟨by rw [HE.out], ?_⟩
     exact HB2.out
    have hq2 : ((upS s).toList == (kwS k).toList) = false := beq_eq_false_iff_ne.mpr (fun h => hq (toList_inj h))
    go_wp2
    refine ⟨⟨k + 1, b, by first | rfl | go_num | (congr 1; omega), by omega, by omega, ⟨HK.out.symm ▸ (HU.out.trans (if_neg hq)).symm⟩⟩, ?_⟩
    exact mu27 hlt (by omega)
   have hk27 : k = 27 := by omega
   subst hk27
   have HE := am (show nameV s = true from by rw [HA.out, ← HK.out]; cases b <;> simp [kwV])
   go_wp2
   refine bodyPost_ret (v := .bool true) (by simp [results, Tryd.results54, go_sem, *]) rfl ⟨by rw [HE.out], ?_⟩
   exact HB2.out
end Go.Proofs.YtbhpjpeknooppaaDoor.M
namespace Go.Proofs.YtbhpjpeknooppaaDoor.M
open Go.RowKit Go.Proofs.YtbhpjpeknooppaaDoorW.PrintWords Go.Proofs.YtbhpjpeknooppaaDoorW.PrintLast Go.Proofs.YtbhpjpeknooppaaDoorW.PrintMore
open Go.Proofs.YtbhpjpeknooppaaDoor.PCodeSpares
set_option linter.unusedVariables false
set_option linter.unusedSimpArgs false
def fieldsV (n : S61) : Bool :=
 if (n.f0 = 1 ∧ n.f1 < 0) ∨ (n.f0 ≠ 1 ∧ n.f1 ≠ 0) then false
 else if ((4 ≤ n.f0 ∧ n.f0 ≤ 11) ∧ nameV n.f2 = false) ∨ (¬ (4 ≤ n.f0 ∧ n.f0 ≤ 11) ∧ n.f2.toList.isEmpty = false) then false
 else if 4 ≤ n.f0 ∧ n.f0 ≤ 11 ∧ n.f0 ≠ 5 then nameV n.f3 else n.f3.toList.isEmpty
set_option maxHeartbeats 8000000 in
set_option maxRecDepth 100000 in
theorem show_fields (a0 a1 : Int) (a2 a3 : ByteArray) (a4 a5 : Int) (w : World) (G : GlobK w) :
  Calls Tryd.prog 47 #[.agg #[.int .i64 a0, .int .i64 a1, .string a2, .string a3, .int .i64 a4, .int .i64 a5]] w fun e w' => e = .returned (.bool (fieldsV ⟨a0, a1, a2, a3, a4, a5⟩)) ∧ Below w.heap.size w w' := by
 have HG := am G
 have HB := am (Below.refl w.heap.size w)
 clear G
 by_cases h1 : a0 = 1
 ·by_cases n1 : a1 < 0
  ·have e1 : (a0 == 1) = true := by simpa using h1
   have e4 : decide (4 ≤ a0) = false := by simp; omega
   have eN : decide (a1 < 0) = true := by simpa using n1
   go_enter Tryd.func47, Tryd.ntmps47
   have HE := am (show fieldsV ⟨a0, a1, a2, a3, a4, a5⟩ = false from by rw [fieldsV, if_pos (by simp; omega)])
   go_wp2_with (first | ((with_reducible refine gate_dst (N := 1) rfl ?_); refine box_event ?hg (N := 1) ?hd (cs := #[.int .i64 a0, .int .i64 a1, .string a2, .string a3, .int .i64 a4, .int .i64 a5]) (t := 61) ?hr ?_; (case hd => rfl); (case hg => rfl); (case hr => first | (go_simp; done) | (go_simp; rfl)); intro g1 hg_ W1 hbox hb; have GE_g1 := ge1 hg_ HB; replace HB := bs HB hb; have BK_g1 := am hbox; have c_g1 := cf6 BK_g1; clear hb hbox hg_))
   go_quiet (fail)
   generalize hWD : W1.drewN nq = W2
   have hb : Below W1.heap.size W1 W2 := by rw [← hWD]; exact pw_below_drewN (Below.refl _ _) nq
   clear hWD
   replace HB := bs HB hb
   (try clear c_g1)
   replace BK_g1 := bb BK_g1 hb
   have c_g1 := cf6 BK_g1
   clear hb
   go_wp2_with (first | (go_at_call 54; refine (event_IsName _ _ (HG.out.below HB.out)).mono ?_; rintro e W3 ⟨rfl, hb⟩; replace HB := bs HB hb; (try clear c_g1); replace BK_g1 := bb BK_g1 hb; have c_g1 := cf6 BK_g1; clear hb) | (go_at_call 54; refine (event_IsName _ _ (HG.out.below HB.out)).mono ?_; rintro e W4 ⟨rfl, hb⟩; replace HB := bs HB hb; (try clear c_g1); replace BK_g1 := bb BK_g1 hb; have c_g1 := cf6 BK_g1; clear hb))
   refine bodyPost_ret (v := .bool (false)) (by simp [results, Tryd.results47, go_sem, *]) rfl ⟨by rw [HE.out], ?_⟩
   exact HB.out
  by_cases hv : a2.toList.isEmpty = false
  ·have e1 : (a0 == 1) = true := by simpa using h1
   have e4 : decide (4 ≤ a0) = false := by simp; omega
   have eN : decide (a1 < 0) = false := by simp; omega
   go_enter Tryd.func47, Tryd.ntmps47
   have HE := am (show fieldsV ⟨a0, a1, a2, a3, a4, a5⟩ = false from by rw [fieldsV, if_neg (by simp; omega), if_pos (.inr ⟨by simp; omega, hv⟩)])
   go_wp2_with (first | ((with_reducible refine gate_dst (N := 1) rfl ?_); refine box_event ?hg (N := 1) ?hd (cs := #[.int .i64 a0, .int .i64 a1, .string a2, .string a3, .int .i64 a4, .int .i64 a5]) (t := 61) ?hr ?_; (case hd => rfl); (case hg => rfl); (case hr => first | (go_simp; done) | (go_simp; rfl)); intro g1 hg_ W1 hbox hb; have GE_g1 := ge1 hg_ HB; replace HB := bs HB hb; have BK_g1 := am hbox; have c_g1 := cf6 BK_g1; clear hb hbox hg_))
   go_quiet (fail)
   generalize hWD : W1.drewN nq = W2
   have hb : Below W1.heap.size W1 W2 := by rw [← hWD]; exact pw_below_drewN (Below.refl _ _) nq
   clear hWD
   replace HB := bs HB hb
   (try clear c_g1)
   replace BK_g1 := bb BK_g1 hb
   have c_g1 := cf6 BK_g1
   clear hb
   go_wp2_with (first | (go_at_call 54; refine (event_IsName _ _ (HG.out.below HB.out)).mono ?_; rintro e W3 ⟨rfl, hb⟩; replace HB := bs HB hb; (try clear c_g1); replace BK_g1 := bb BK_g1 hb; have c_g1 := cf6 BK_g1; clear hb) | (go_at_call 54; refine (event_IsName _ _ (HG.out.below HB.out)).mono ?_; rintro e W4 ⟨rfl, hb⟩; replace HB := bs HB hb; (try clear c_g1); replace BK_g1 := bb BK_g1 hb; have c_g1 := cf6 BK_g1; clear hb))
   refine bodyPost_ret (v := .bool (false)) (by simp [results, Tryd.results47, go_sem, *]) rfl ⟨by rw [HE.out], ?_⟩
   exact HB.out
  have e1 : (a0 == 1) = true := by simpa using h1
  have e4 : decide (4 ≤ a0) = false := by simp; omega
  have eN : decide (a1 < 0) = false := by simp; omega
  have hv2 : a2.toList.isEmpty = true := by simpa using hv
  go_enter Tryd.func47, Tryd.ntmps47
  have HE := am (show fieldsV ⟨a0, a1, a2, a3, a4, a5⟩ = a3.toList.isEmpty from by rw [fieldsV, if_neg (by simp; omega), if_neg (by rintro (⟨h, _⟩ | ⟨_, h⟩); simp at h; omega; exact hv h), if_neg (by simp; omega)])
  go_wp2_with (first | ((with_reducible refine gate_dst (N := 1) rfl ?_); refine box_event ?hg (N := 1) ?hd (cs := #[.int .i64 a0, .int .i64 a1, .string a2, .string a3, .int .i64 a4, .int .i64 a5]) (t := 61) ?hr ?_; (case hd => rfl); (case hg => rfl); (case hr => first | (go_simp; done) | (go_simp; rfl)); intro g1 hg_ W1 hbox hb; have GE_g1 := ge1 hg_ HB; replace HB := bs HB hb; have BK_g1 := am hbox; have c_g1 := cf6 BK_g1; clear hb hbox hg_))
  go_quiet (fail)
  generalize hWD : W1.drewN nq = W2
  have hb : Below W1.heap.size W1 W2 := by rw [← hWD]; exact pw_below_drewN (Below.refl _ _) nq
  clear hWD
  replace HB := bs HB hb
  (try clear c_g1)
  replace BK_g1 := bb BK_g1 hb
  have c_g1 := cf6 BK_g1
  clear hb
  go_wp2_with (first | (go_at_call 54; refine (event_IsName _ _ (HG.out.below HB.out)).mono ?_; rintro e W3 ⟨rfl, hb⟩; replace HB := bs HB hb; (try clear c_g1); replace BK_g1 := bb BK_g1 hb; have c_g1 := cf6 BK_g1; clear hb) | (go_at_call 54; refine (event_IsName _ _ (HG.out.below HB.out)).mono ?_; rintro e W4 ⟨rfl, hb⟩; replace HB := bs HB hb; (try clear c_g1); replace BK_g1 := bb BK_g1 hb; have c_g1 := cf6 BK_g1; clear hb))
  refine bodyPost_ret (v := .bool (a3.toList.isEmpty)) (by simp [results, Tryd.results47, go_sem, *]) rfl ⟨by rw [HE.out], ?_⟩
  exact HB.out
 have e1 : (a0 == 1) = false := by simpa using h1
 by_cases h4 : a0 < 4
 ·by_cases n1 : a1 ≠ 0
  ·have e4 : decide (4 ≤ a0) = false := by simp; omega
   have eN : (a1 != 0) = true := by simpa using n1
   go_enter Tryd.func47, Tryd.ntmps47
   have HE := am (show fieldsV ⟨a0, a1, a2, a3, a4, a5⟩ = false from by rw [fieldsV, if_pos (by simp; omega)])
   go_wp2_with (first | ((with_reducible refine gate_dst (N := 1) rfl ?_); refine box_event ?hg (N := 1) ?hd (cs := #[.int .i64 a0, .int .i64 a1, .string a2, .string a3, .int .i64 a4, .int .i64 a5]) (t := 61) ?hr ?_; (case hd => rfl); (case hg => rfl); (case hr => first | (go_simp; done) | (go_simp; rfl)); intro g1 hg_ W1 hbox hb; have GE_g1 := ge1 hg_ HB; replace HB := bs HB hb; have BK_g1 := am hbox; have c_g1 := cf6 BK_g1; clear hb hbox hg_))
   go_quiet (fail)
   generalize hWD : W1.drewN nq = W2
   have hb : Below W1.heap.size W1 W2 := by rw [← hWD]; exact pw_below_drewN (Below.refl _ _) nq
   clear hWD
   replace HB := bs HB hb
   (try clear c_g1)
   replace BK_g1 := bb BK_g1 hb
   have c_g1 := cf6 BK_g1
   clear hb
   go_wp2_with (first | (go_at_call 54; refine (event_IsName _ _ (HG.out.below HB.out)).mono ?_; rintro e W3 ⟨rfl, hb⟩; replace HB := bs HB hb; (try clear c_g1); replace BK_g1 := bb BK_g1 hb; have c_g1 := cf6 BK_g1; clear hb) | (go_at_call 54; refine (event_IsName _ _ (HG.out.below HB.out)).mono ?_; rintro e W4 ⟨rfl, hb⟩; replace HB := bs HB hb; (try clear c_g1); replace BK_g1 := bb BK_g1 hb; have c_g1 := cf6 BK_g1; clear hb))
   refine bodyPost_ret (v := .bool (false)) (by simp [results, Tryd.results47, go_sem, *]) rfl ⟨by rw [HE.out], ?_⟩
   exact HB.out
  by_cases hv : a2.toList.isEmpty = false
  ·have e4 : decide (4 ≤ a0) = false := by simp; omega
   have eN : (a1 != 0) = false := by simp; omega
   go_enter Tryd.func47, Tryd.ntmps47
   have HE := am (show fieldsV ⟨a0, a1, a2, a3, a4, a5⟩ = false from by rw [fieldsV, if_neg (by simp; omega), if_pos (.inr ⟨by simp; omega, hv⟩)])
   go_wp2_with (first | ((with_reducible refine gate_dst (N := 1) rfl ?_); refine box_event ?hg (N := 1) ?hd (cs := #[.int .i64 a0, .int .i64 a1, .string a2, .string a3, .int .i64 a4, .int .i64 a5]) (t := 61) ?hr ?_; (case hd => rfl); (case hg => rfl); (case hr => first | (go_simp; done) | (go_simp; rfl)); intro g1 hg_ W1 hbox hb; have GE_g1 := ge1 hg_ HB; replace HB := bs HB hb; have BK_g1 := am hbox; have c_g1 := cf6 BK_g1; clear hb hbox hg_))
   go_quiet (fail)
   generalize hWD : W1.drewN nq = W2
   have hb : Below W1.heap.size W1 W2 := by rw [← hWD]; exact pw_below_drewN (Below.refl _ _) nq
   clear hWD
   replace HB := bs HB hb
   (try clear c_g1)
   replace BK_g1 := bb BK_g1 hb
   have c_g1 := cf6 BK_g1
   clear hb
   go_wp2_with (first | (go_at_call 54; refine (event_IsName _ _ (HG.out.below HB.out)).mono ?_; rintro e W3 ⟨rfl, hb⟩; replace HB := bs HB hb; (try clear c_g1); replace BK_g1 := bb BK_g1 hb; have c_g1 := cf6 BK_g1; clear hb) | (go_at_call 54; refine (event_IsName _ _ (HG.out.below HB.out)).mono ?_; rintro e W4 ⟨rfl, hb⟩; replace HB := bs HB hb; (try clear c_g1); replace BK_g1 := bb BK_g1 hb; have c_g1 := cf6 BK_g1; clear hb))
   refine bodyPost_ret (v := .bool (false)) (by simp [results, Tryd.results47, go_sem, *]) rfl ⟨by rw [HE.out], ?_⟩
   exact HB.out
  have e4 : decide (4 ≤ a0) = false := by simp; omega
  have eN : (a1 != 0) = false := by simp; omega
  have hv2 : a2.toList.isEmpty = true := by simpa using hv
  go_enter Tryd.func47, Tryd.ntmps47
  have HE := am (show fieldsV ⟨a0, a1, a2, a3, a4, a5⟩ = a3.toList.isEmpty from by rw [fieldsV, if_neg (by simp; omega), if_neg (by rintro (⟨h, _⟩ | ⟨_, h⟩); simp at h; omega; exact hv h), if_neg (by simp; omega)])
  go_wp2_with (first | ((with_reducible refine gate_dst (N := 1) rfl ?_); refine box_event ?hg (N := 1) ?hd (cs := #[.int .i64 a0, .int .i64 a1, .string a2, .string a3, .int .i64 a4, .int .i64 a5]) (t := 61) ?hr ?_; (case hd => rfl); (case hg => rfl); (case hr => first | (go_simp; done) | (go_simp; rfl)); intro g1 hg_ W1 hbox hb; have GE_g1 := ge1 hg_ HB; replace HB := bs HB hb; have BK_g1 := am hbox; have c_g1 := cf6 BK_g1; clear hb hbox hg_))
  go_quiet (fail)
  generalize hWD : W1.drewN nq = W2
  have hb : Below W1.heap.size W1 W2 := by rw [← hWD]; exact pw_below_drewN (Below.refl _ _) nq
  clear hWD
  replace HB := bs HB hb
  (try clear c_g1)
  replace BK_g1 := bb BK_g1 hb
  have c_g1 := cf6 BK_g1
  clear hb
  go_wp2_with (first | (go_at_call 54; refine (event_IsName _ _ (HG.out.below HB.out)).mono ?_; rintro e W3 ⟨rfl, hb⟩; replace HB := bs HB hb; (try clear c_g1); replace BK_g1 := bb BK_g1 hb; have c_g1 := cf6 BK_g1; clear hb) | (go_at_call 54; refine (event_IsName _ _ (HG.out.below HB.out)).mono ?_; rintro e W4 ⟨rfl, hb⟩; replace HB := bs HB hb; (try clear c_g1); replace BK_g1 := bb BK_g1 hb; have c_g1 := cf6 BK_g1; clear hb))
  refine bodyPost_ret (v := .bool (a3.toList.isEmpty)) (by simp [results, Tryd.results47, go_sem, *]) rfl ⟨by rw [HE.out], ?_⟩
  exact HB.out
 have e4 : decide (4 ≤ a0) = true := by simp; omega
 by_cases h11 : 11 < a0
 ·by_cases n1 : a1 ≠ 0
  ·have e11 : decide (a0 ≤ 11) = false := by simp; omega
   have eN : (a1 != 0) = true := by simpa using n1
   go_enter Tryd.func47, Tryd.ntmps47
   have HE := am (show fieldsV ⟨a0, a1, a2, a3, a4, a5⟩ = false from by rw [fieldsV, if_pos (by simp; omega)])
   go_wp2_with (first | ((with_reducible refine gate_dst (N := 1) rfl ?_); refine box_event ?hg (N := 1) ?hd (cs := #[.int .i64 a0, .int .i64 a1, .string a2, .string a3, .int .i64 a4, .int .i64 a5]) (t := 61) ?hr ?_; (case hd => rfl); (case hg => rfl); (case hr => first | (go_simp; done) | (go_simp; rfl)); intro g1 hg_ W1 hbox hb; have GE_g1 := ge1 hg_ HB; replace HB := bs HB hb; have BK_g1 := am hbox; have c_g1 := cf6 BK_g1; clear hb hbox hg_))
   go_quiet (fail)
   generalize hWD : W1.drewN nq = W2
   have hb : Below W1.heap.size W1 W2 := by rw [← hWD]; exact pw_below_drewN (Below.refl _ _) nq
   clear hWD
   replace HB := bs HB hb
   (try clear c_g1)
   replace BK_g1 := bb BK_g1 hb
   have c_g1 := cf6 BK_g1
   clear hb
   go_wp2_with (first | (go_at_call 54; refine (event_IsName _ _ (HG.out.below HB.out)).mono ?_; rintro e W3 ⟨rfl, hb⟩; replace HB := bs HB hb; (try clear c_g1); replace BK_g1 := bb BK_g1 hb; have c_g1 := cf6 BK_g1; clear hb) | (go_at_call 54; refine (event_IsName _ _ (HG.out.below HB.out)).mono ?_; rintro e W4 ⟨rfl, hb⟩; replace HB := bs HB hb; (try clear c_g1); replace BK_g1 := bb BK_g1 hb; have c_g1 := cf6 BK_g1; clear hb))
   refine bodyPost_ret (v := .bool (false)) (by simp [results, Tryd.results47, go_sem, *]) rfl ⟨by rw [HE.out], ?_⟩
   exact HB.out
  by_cases hv : a2.toList.isEmpty = false
  ·have e11 : decide (a0 ≤ 11) = false := by simp; omega
   have eN : (a1 != 0) = false := by simp; omega
   go_enter Tryd.func47, Tryd.ntmps47
   have HE := am (show fieldsV ⟨a0, a1, a2, a3, a4, a5⟩ = false from by rw [fieldsV, if_neg (by simp; omega), if_pos (.inr ⟨by simp; omega, hv⟩)])
   go_wp2_with (first | ((with_reducible refine gate_dst (N := 1) rfl ?_); refine box_event ?hg (N := 1) ?hd (cs := #[.int .i64 a0, .int .i64 a1, .string a2, .string a3, .int .i64 a4, .int .i64 a5]) (t := 61) ?hr ?_; (case hd => rfl); (case hg => rfl); (case hr => first | (go_simp; done) | (go_simp; rfl)); intro g1 hg_ W1 hbox hb; have GE_g1 := ge1 hg_ HB; replace HB := bs HB hb; have BK_g1 := am hbox; have c_g1 := cf6 BK_g1; clear hb hbox hg_))
   go_quiet (fail)
   generalize hWD : W1.drewN nq = W2
   have hb : Below W1.heap.size W1 W2 := by rw [← hWD]; exact pw_below_drewN (Below.refl _ _) nq
   clear hWD
   replace HB := bs HB hb
   (try clear c_g1)
   replace BK_g1 := bb BK_g1 hb
   have c_g1 := cf6 BK_g1
   clear hb
   go_wp2_with (first | (go_at_call 54; refine (event_IsName _ _ (HG.out.below HB.out)).mono ?_; rintro e W3 ⟨rfl, hb⟩; replace HB := bs HB hb; (try clear c_g1); replace BK_g1 := bb BK_g1 hb; have c_g1 := cf6 BK_g1; clear hb) | (go_at_call 54; refine (event_IsName _ _ (HG.out.below HB.out)).mono ?_; rintro e W4 ⟨rfl, hb⟩; replace HB := bs HB hb; (try clear c_g1); replace BK_g1 := bb BK_g1 hb; have c_g1 := cf6 BK_g1; clear hb))
   refine bodyPost_ret (v := .bool (false)) (by simp [results, Tryd.results47, go_sem, *]) rfl ⟨by rw [HE.out], ?_⟩
   exact HB.out
  have e11 : decide (a0 ≤ 11) = false := by simp; omega
  have eN : (a1 != 0) = false := by simp; omega
  have hv2 : a2.toList.isEmpty = true := by simpa using hv
  go_enter Tryd.func47, Tryd.ntmps47
  have HE := am (show fieldsV ⟨a0, a1, a2, a3, a4, a5⟩ = a3.toList.isEmpty from by rw [fieldsV, if_neg (by simp; omega), if_neg (by rintro (⟨h, _⟩ | ⟨_, h⟩); simp at h; omega; exact hv h), if_neg (by simp; omega)])
  go_wp2_with (first | ((with_reducible refine gate_dst (N := 1) rfl ?_); refine box_event ?hg (N := 1) ?hd (cs := #[.int .i64 a0, .int .i64 a1, .string a2, .string a3, .int .i64 a4, .int .i64 a5]) (t := 61) ?hr ?_; (case hd => rfl); (case hg => rfl); (case hr => first | (go_simp; done) | (go_simp; rfl)); intro g1 hg_ W1 hbox hb; have GE_g1 := ge1 hg_ HB; replace HB := bs HB hb; have BK_g1 := am hbox; have c_g1 := cf6 BK_g1; clear hb hbox hg_))
  go_quiet (fail)
  generalize hWD : W1.drewN nq = W2
  have hb : Below W1.heap.size W1 W2 := by rw [← hWD]; exact pw_below_drewN (Below.refl _ _) nq
  clear hWD
  replace HB := bs HB hb
  (try clear c_g1)
  replace BK_g1 := bb BK_g1 hb
  have c_g1 := cf6 BK_g1
  clear hb
  go_wp2_with (first | (go_at_call 54; refine (event_IsName _ _ (HG.out.below HB.out)).mono ?_; rintro e W3 ⟨rfl, hb⟩; replace HB := bs HB hb; (try clear c_g1); replace BK_g1 := bb BK_g1 hb; have c_g1 := cf6 BK_g1; clear hb) | (go_at_call 54; refine (event_IsName _ _ (HG.out.below HB.out)).mono ?_; rintro e W4 ⟨rfl, hb⟩; replace HB := bs HB hb; (try clear c_g1); replace BK_g1 := bb BK_g1 hb; have c_g1 := cf6 BK_g1; clear hb))
  refine bodyPost_ret (v := .bool (a3.toList.isEmpty)) (by simp [results, Tryd.results47, go_sem, *]) rfl ⟨by rw [HE.out], ?_⟩
  exact HB.out
 have e11 : decide (a0 ≤ 11) = true := by simp; omega
 by_cases h5 : a0 = 5
 ·by_cases n1 : a1 ≠ 0
  ·have e5 : (a0 != 5) = false := by simp [h5]
   have eN : (a1 != 0) = true := by simpa using n1
   go_enter Tryd.func47, Tryd.ntmps47
   have HE := am (show fieldsV ⟨a0, a1, a2, a3, a4, a5⟩ = false from by rw [fieldsV, if_pos (by simp; omega)])
   go_wp2_with (first | ((with_reducible refine gate_dst (N := 1) rfl ?_); refine box_event ?hg (N := 1) ?hd (cs := #[.int .i64 a0, .int .i64 a1, .string a2, .string a3, .int .i64 a4, .int .i64 a5]) (t := 61) ?hr ?_; (case hd => rfl); (case hg => rfl); (case hr => first | (go_simp; done) | (go_simp; rfl)); intro g1 hg_ W1 hbox hb; have GE_g1 := ge1 hg_ HB; replace HB := bs HB hb; have BK_g1 := am hbox; have c_g1 := cf6 BK_g1; clear hb hbox hg_))
   go_quiet (fail)
   generalize hWD : W1.drewN nq = W2
   have hb : Below W1.heap.size W1 W2 := by rw [← hWD]; exact pw_below_drewN (Below.refl _ _) nq
   clear hWD
   replace HB := bs HB hb
   (try clear c_g1)
   replace BK_g1 := bb BK_g1 hb
   have c_g1 := cf6 BK_g1
   clear hb
   go_wp2_with (first | (go_at_call 54; refine (event_IsName _ _ (HG.out.below HB.out)).mono ?_; rintro e W3 ⟨rfl, hb⟩; replace HB := bs HB hb; (try clear c_g1); replace BK_g1 := bb BK_g1 hb; have c_g1 := cf6 BK_g1; clear hb) | (go_at_call 54; refine (event_IsName _ _ (HG.out.below HB.out)).mono ?_; rintro e W4 ⟨rfl, hb⟩; replace HB := bs HB hb; (try clear c_g1); replace BK_g1 := bb BK_g1 hb; have c_g1 := cf6 BK_g1; clear hb))
   refine bodyPost_ret (v := .bool (false)) (by simp [results, Tryd.results47, go_sem, *]) rfl ⟨by rw [HE.out], ?_⟩
   exact HB.out
  by_cases hv : nameV a2 = false
  ·have e5 : (a0 != 5) = false := by simp [h5]
   have eN : (a1 != 0) = false := by simp; omega
   go_enter Tryd.func47, Tryd.ntmps47
   have HE := am (show fieldsV ⟨a0, a1, a2, a3, a4, a5⟩ = false from by rw [fieldsV, if_neg (by simp; omega), if_pos (.inl ⟨by simp; omega, hv⟩)])
   go_wp2_with (first | ((with_reducible refine gate_dst (N := 1) rfl ?_); refine box_event ?hg (N := 1) ?hd (cs := #[.int .i64 a0, .int .i64 a1, .string a2, .string a3, .int .i64 a4, .int .i64 a5]) (t := 61) ?hr ?_; (case hd => rfl); (case hg => rfl); (case hr => first | (go_simp; done) | (go_simp; rfl)); intro g1 hg_ W1 hbox hb; have GE_g1 := ge1 hg_ HB; replace HB := bs HB hb; have BK_g1 := am hbox; have c_g1 := cf6 BK_g1; clear hb hbox hg_))
   go_quiet (fail)
   generalize hWD : W1.drewN nq = W2
   have hb : Below W1.heap.size W1 W2 := by rw [← hWD]; exact pw_below_drewN (Below.refl _ _) nq
   clear hWD
   replace HB := bs HB hb
   (try clear c_g1)
   replace BK_g1 := bb BK_g1 hb
   have c_g1 := cf6 BK_g1
   clear hb
   go_wp2_with (first | (go_at_call 54; refine (event_IsName _ _ (HG.out.below HB.out)).mono ?_; rintro e W3 ⟨rfl, hb⟩; replace HB := bs HB hb; (try clear c_g1); replace BK_g1 := bb BK_g1 hb; have c_g1 := cf6 BK_g1; clear hb) | (go_at_call 54; refine (event_IsName _ _ (HG.out.below HB.out)).mono ?_; rintro e W4 ⟨rfl, hb⟩; replace HB := bs HB hb; (try clear c_g1); replace BK_g1 := bb BK_g1 hb; have c_g1 := cf6 BK_g1; clear hb))
   refine bodyPost_ret (v := .bool (false)) (by simp [results, Tryd.results47, go_sem, *]) rfl ⟨by rw [HE.out], ?_⟩
   exact HB.out
  have e5 : (a0 != 5) = false := by simp [h5]
  have eN : (a1 != 0) = false := by simp; omega
  have hv2 : nameV a2 = true := by simpa using hv
  go_enter Tryd.func47, Tryd.ntmps47
  have HE := am (show fieldsV ⟨a0, a1, a2, a3, a4, a5⟩ = a3.toList.isEmpty from by rw [fieldsV, if_neg (by simp; omega), if_neg (by rintro (⟨_, h⟩ | ⟨h, _⟩); exact hv h; exact h (by simp; omega)), if_neg (by simp; omega)])
  go_wp2_with (first | ((with_reducible refine gate_dst (N := 1) rfl ?_); refine box_event ?hg (N := 1) ?hd (cs := #[.int .i64 a0, .int .i64 a1, .string a2, .string a3, .int .i64 a4, .int .i64 a5]) (t := 61) ?hr ?_; (case hd => rfl); (case hg => rfl); (case hr => first | (go_simp; done) | (go_simp; rfl)); intro g1 hg_ W1 hbox hb; have GE_g1 := ge1 hg_ HB; replace HB := bs HB hb; have BK_g1 := am hbox; have c_g1 := cf6 BK_g1; clear hb hbox hg_))
  go_quiet (fail)
  generalize hWD : W1.drewN nq = W2
  have hb : Below W1.heap.size W1 W2 := by rw [← hWD]; exact pw_below_drewN (Below.refl _ _) nq
  clear hWD
  replace HB := bs HB hb
  (try clear c_g1)
  replace BK_g1 := bb BK_g1 hb
  have c_g1 := cf6 BK_g1
  clear hb
  go_wp2_with (first | (go_at_call 54; refine (event_IsName _ _ (HG.out.below HB.out)).mono ?_; rintro e W3 ⟨rfl, hb⟩; replace HB := bs HB hb; (try clear c_g1); replace BK_g1 := bb BK_g1 hb; have c_g1 := cf6 BK_g1; clear hb) | (go_at_call 54; refine (event_IsName _ _ (HG.out.below HB.out)).mono ?_; rintro e W4 ⟨rfl, hb⟩; replace HB := bs HB hb; (try clear c_g1); replace BK_g1 := bb BK_g1 hb; have c_g1 := cf6 BK_g1; clear hb))
  refine bodyPost_ret (v := .bool (a3.toList.isEmpty)) (by simp [results, Tryd.results47, go_sem, *]) rfl ⟨by rw [HE.out], ?_⟩
  exact HB.out
 have e5 : (a0 != 5) = true := by simpa using h5
 by_cases n1 : a1 ≠ 0
 ·have eN : (a1 != 0) = true := by simpa using n1
  go_enter Tryd.func47, Tryd.ntmps47
  have HE := am (show fieldsV ⟨a0, a1, a2, a3, a4, a5⟩ = false from by rw [fieldsV, if_pos (by simp; omega)])
  go_wp2_with (first | ((with_reducible refine gate_dst (N := 1) rfl ?_); refine box_event ?hg (N := 1) ?hd (cs := #[.int .i64 a0, .int .i64 a1, .string a2, .string a3, .int .i64 a4, .int .i64 a5]) (t := 61) ?hr ?_; (case hd => rfl); (case hg => rfl); (case hr => first | (go_simp; done) | (go_simp; rfl)); intro g1 hg_ W1 hbox hb; have GE_g1 := ge1 hg_ HB; replace HB := bs HB hb; have BK_g1 := am hbox; have c_g1 := cf6 BK_g1; clear hb hbox hg_))
  go_quiet (fail)
  generalize hWD : W1.drewN nq = W2
  have hb : Below W1.heap.size W1 W2 := by rw [← hWD]; exact pw_below_drewN (Below.refl _ _) nq
  clear hWD
  replace HB := bs HB hb
  (try clear c_g1)
  replace BK_g1 := bb BK_g1 hb
  have c_g1 := cf6 BK_g1
  clear hb
  go_wp2_with (first | (go_at_call 54; refine (event_IsName _ _ (HG.out.below HB.out)).mono ?_; rintro e W3 ⟨rfl, hb⟩; replace HB := bs HB hb; (try clear c_g1); replace BK_g1 := bb BK_g1 hb; have c_g1 := cf6 BK_g1; clear hb) | (go_at_call 54; refine (event_IsName _ _ (HG.out.below HB.out)).mono ?_; rintro e W4 ⟨rfl, hb⟩; replace HB := bs HB hb; (try clear c_g1); replace BK_g1 := bb BK_g1 hb; have c_g1 := cf6 BK_g1; clear hb))
  refine bodyPost_ret (v := .bool (false)) (by simp [results, Tryd.results47, go_sem, *]) rfl ⟨by rw [HE.out], ?_⟩
  exact HB.out
 by_cases hv : nameV a2 = false
 ·have eN : (a1 != 0) = false := by simp; omega
  go_enter Tryd.func47, Tryd.ntmps47
  have HE := am (show fieldsV ⟨a0, a1, a2, a3, a4, a5⟩ = false from by rw [fieldsV, if_neg (by simp; omega), if_pos (.inl ⟨by simp; omega, hv⟩)])
  go_wp2_with (first | ((with_reducible refine gate_dst (N := 1) rfl ?_); refine box_event ?hg (N := 1) ?hd (cs := #[.int .i64 a0, .int .i64 a1, .string a2, .string a3, .int .i64 a4, .int .i64 a5]) (t := 61) ?hr ?_; (case hd => rfl); (case hg => rfl); (case hr => first | (go_simp; done) | (go_simp; rfl)); intro g1 hg_ W1 hbox hb; have GE_g1 := ge1 hg_ HB; replace HB := bs HB hb; have BK_g1 := am hbox; have c_g1 := cf6 BK_g1; clear hb hbox hg_))
  go_quiet (fail)
  generalize hWD : W1.drewN nq = W2
  have hb : Below W1.heap.size W1 W2 := by rw [← hWD]; exact pw_below_drewN (Below.refl _ _) nq
  clear hWD
  replace HB := bs HB hb
  (try clear c_g1)
  replace BK_g1 := bb BK_g1 hb
  have c_g1 := cf6 BK_g1
  clear hb
  go_wp2_with (first | (go_at_call 54; refine (event_IsName _ _ (HG.out.below HB.out)).mono ?_; rintro e W3 ⟨rfl, hb⟩; replace HB := bs HB hb; (try clear c_g1); replace BK_g1 := bb BK_g1 hb; have c_g1 := cf6 BK_g1; clear hb) | (go_at_call 54; refine (event_IsName _ _ (HG.out.below HB.out)).mono ?_; rintro e W4 ⟨rfl, hb⟩; replace HB := bs HB hb; (try clear c_g1); replace BK_g1 := bb BK_g1 hb; have c_g1 := cf6 BK_g1; clear hb))
  refine bodyPost_ret (v := .bool (false)) (by simp [results, Tryd.results47, go_sem, *]) rfl ⟨by rw [HE.out], ?_⟩
  exact HB.out
 cases hv3 : nameV a3
 ·have eN : (a1 != 0) = false := by simp; omega
  have hv2 : nameV a2 = true := by simpa using hv
  go_enter Tryd.func47, Tryd.ntmps47
  have HE := am (show fieldsV ⟨a0, a1, a2, a3, a4, a5⟩ = false from by rw [fieldsV, if_neg (by simp; omega), if_neg (by rintro (⟨_, h⟩ | ⟨h, _⟩); exact hv h; exact h (by simp; omega)), if_pos (by simp; omega)]; exact hv3)
  go_wp2_with (first | ((with_reducible refine gate_dst (N := 1) rfl ?_); refine box_event ?hg (N := 1) ?hd (cs := #[.int .i64 a0, .int .i64 a1, .string a2, .string a3, .int .i64 a4, .int .i64 a5]) (t := 61) ?hr ?_; (case hd => rfl); (case hg => rfl); (case hr => first | (go_simp; done) | (go_simp; rfl)); intro g1 hg_ W1 hbox hb; have GE_g1 := ge1 hg_ HB; replace HB := bs HB hb; have BK_g1 := am hbox; have c_g1 := cf6 BK_g1; clear hb hbox hg_))
  go_quiet (fail)
  generalize hWD : W1.drewN nq = W2
  have hb : Below W1.heap.size W1 W2 := by rw [← hWD]; exact pw_below_drewN (Below.refl _ _) nq
  clear hWD
  replace HB := bs HB hb
  (try clear c_g1)
  replace BK_g1 := bb BK_g1 hb
  have c_g1 := cf6 BK_g1
  clear hb
  go_wp2_with (first | (go_at_call 54; refine (event_IsName _ _ (HG.out.below HB.out)).mono ?_; rintro e W3 ⟨rfl, hb⟩; replace HB := bs HB hb; (try clear c_g1); replace BK_g1 := bb BK_g1 hb; have c_g1 := cf6 BK_g1; clear hb) | (go_at_call 54; refine (event_IsName _ _ (HG.out.below HB.out)).mono ?_; rintro e W4 ⟨rfl, hb⟩; replace HB := bs HB hb; (try clear c_g1); replace BK_g1 := bb BK_g1 hb; have c_g1 := cf6 BK_g1; clear hb))
  refine bodyPost_ret (v := .bool (false)) (by simp [results, Tryd.results47, go_sem, *]) rfl ⟨by rw [HE.out], ?_⟩
  exact HB.out
 have eN : (a1 != 0) = false := by simp; omega
 have hv2 : nameV a2 = true := by simpa using hv
 go_enter Tryd.func47, Tryd.ntmps47
 have HE := am (show fieldsV ⟨a0, a1, a2, a3, a4, a5⟩ = true from by rw [fieldsV, if_neg (by simp; omega), if_neg (by rintro (⟨_, h⟩ | ⟨h, _⟩); exact hv h; exact h (by simp; omega)), if_pos (by simp; omega)]; exact hv3)
 go_wp2_with (first | ((with_reducible refine gate_dst (N := 1) rfl ?_); refine box_event ?hg (N := 1) ?hd (cs := #[.int .i64 a0, .int .i64 a1, .string a2, .string a3, .int .i64 a4, .int .i64 a5]) (t := 61) ?hr ?_; (case hd => rfl); (case hg => rfl); (case hr => first | (go_simp; done) | (go_simp; rfl)); intro g1 hg_ W1 hbox hb; have GE_g1 := ge1 hg_ HB; replace HB := bs HB hb; have BK_g1 := am hbox; have c_g1 := cf6 BK_g1; clear hb hbox hg_))
 go_quiet (fail)
 generalize hWD : W1.drewN nq = W2
 have hb : Below W1.heap.size W1 W2 := by rw [← hWD]; exact pw_below_drewN (Below.refl _ _) nq
 clear hWD
 replace HB := bs HB hb
 (try clear c_g1)
 replace BK_g1 := bb BK_g1 hb
 have c_g1 := cf6 BK_g1
 clear hb
 go_wp2_with (first | (go_at_call 54; refine (event_IsName _ _ (HG.out.below HB.out)).mono ?_; rintro e W3 ⟨rfl, hb⟩; replace HB := bs HB hb; (try clear c_g1); replace BK_g1 := bb BK_g1 hb; have c_g1 := cf6 BK_g1; clear hb) | (go_at_call 54; refine (event_IsName _ _ (HG.out.below HB.out)).mono ?_; rintro e W4 ⟨rfl, hb⟩; replace HB := bs HB hb; (try clear c_g1); replace BK_g1 := bb BK_g1 hb; have c_g1 := cf6 BK_g1; clear hb))
 refine bodyPost_ret (v := .bool (true)) (by simp [results, Tryd.results47, go_sem, *]) rfl ⟨by rw [HE.out], ?_⟩
 exact HB.out
end Go.Proofs.YtbhpjpeknooppaaDoor.M
