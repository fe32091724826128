-- Made smaller by wip/squeeze.py out of this claim's texts. Not trusted: Lean checks it.
import Derived.Test.YtldaingkcnmaoaaDoorX0
namespace Go.Proofs.YtldaingkcnmaoaaDoor.X
open Go.RowKit Go.Proofs.YtldaingkcnmaoaaDoorW.PrintWords Go.Proofs.YtldaingkcnmaoaaDoorW.PrintLast Go.Proofs.YtldaingkcnmaoaaDoorW.PrintMore
attribute [local go_sem] max2_int min2_int max_two min_two max_three min_three max_four min_four
set_option linter.unusedVariables false
set_option linter.unusedSimpArgs false
def lowerB (b : UInt8) : UInt8 := if 65 ≤ b.toNat ∧ b.toNat ≤ 90 then b + 32 else b
def lowerS (s : ByteArray) : ByteArray := ⟨(s.data.toList.map lowerB).toArray⟩
def lowCells (l : List UInt8) (k : Nat) : List Value := nums .u8 (((l.take k).map lowerB ++ l.drop k).map fun b => (b.toNat : Int))
def ascii_Lower.f (a0 : ByteArray) : Option ByteArray := if a0.size ≤ 140737488355328 then some (lowerS a0) else none
theorem lower_info : (Tryd.prog.info? 5).map (fun i => (i.zero, i.size, i.bytes)) = some (some (.int .u8 0), 1, 1) := by kernel_rfl
theorem lower_info1 : (Tryd.prog.info? 5).map (·.size) = some 1 := by kernel_rfl
theorem lowerB_nat (b : UInt8) : ((lowerB b).toNat : Int) = if 65 ≤ (b.toNat : Int) ∧ (b.toNat : Int) ≤ 90 then (b.toNat : Int) + 32 else (b.toNat : Int) := by
 unfold lowerB
 by_cases h : 65 ≤ b.toNat ∧ b.toNat ≤ 90
 · rw [if_pos h, if_pos (by omega), UInt8.toNat_add]
   have : (32 : UInt8).toNat = 32 := rfl
   omega
 · rw [if_neg h, if_neg (by omega)]
theorem lowCells_len (l : List UInt8) (k : Nat) : (lowCells l k).length = l.length := by
 simp [lowCells, nums]; omega
theorem lowCells_get (l : List UInt8) (k : Nat) (h : k < l.length) : (lowCells l k)[k]? = some (.int .u8 (l[k].toNat : Int)) := by
 have : ((l.take k).map lowerB).length = k := by simp; omega
 simp only [lowCells, nums, List.getElem?_map]
 rw [List.getElem?_append_right (by omega), this]
 simp [h]
theorem lowCells_set (l : List UInt8) (k : Nat) (h : k < l.length) : (lowCells l k).set k (.int .u8 ((lowerB l[k]).toNat : Int)) = lowCells l (k + 1) := by
 simp only [lowCells, nums]
 rw [← List.map_set, ← List.map_set]
 congr 2
 have h1 : ((l.take k).map lowerB).length = k := by simp; omega
 rw [List.set_append_right _ _ (by omega), h1, Nat.sub_self, List.drop_eq_getElem_cons h, List.set_cons_zero, List.take_succ_eq_append_getElem h]
 simp only [List.map_append, List.map_cons, List.map_nil, List.append_assoc, List.singleton_append]
theorem lowCells_same (l : List UInt8) (k : Nat) (h : k < l.length) (he : lowerB l[k] = l[k]) : lowCells l k = lowCells l (k + 1) := by
 rw [← lowCells_set l k h, he]
 apply List.ext_getElem?
 intro j
 rw [List.getElem?_set]
 split
 · rename_i e; subst e
   rw [if_pos (by rw [lowCells_len]; exact h), lowCells_get l k h]
 · rfl
def LowBlk (w : World) (g : Nat) (cs : List Value) : Prop := w.heap[g]? = some (.cells cs.toArray 5 (0, 0))
theorem LowBlk.cell {w : World} {g : Nat} {cs : List Value} (h : LowBlk w g cs) (i : Nat) : w.cell? ⟨g, i, none⟩ = cs[i]? := by
 unfold LowBlk at h
 simp [World.cell?, h]
theorem LowBlk.frozen {w : World} {g : Nat} {cs : List Value} (h : LowBlk w g cs) (i : Nat) : w.frozen? ⟨g, i, none⟩ = false := by
 unfold LowBlk at h
 simp [World.frozen?, h]
theorem LowBlk.set_ {w : World} {g : Nat} {cs : List Value} (h : LowBlk w g cs) (i : Nat) (u : Value) : LowBlk (w.setCell ⟨g, i, none⟩ u) g (cs.set i u) := by
 unfold LowBlk at h ⊢
 simp [World.setCell, Array.getElem?_modify, h]
theorem lower_copied (w : World) (s : ByteArray) : ∃ W2 : World, (Builtin.copy_ #[46, 9] 3 #[.slice (some ⟨w.heap.size, 0, none⟩) s.size s.size, .string s]).run Tryd.prog (w.alloc (.cells (madeCells #[.int .u8 0] s.size) 5)) = .ok (goInt s.size) W2 ∧
    LowBlk W2 w.heap.size (lowCells s.data.toList 0) ∧ Below w.heap.size w W2 ∧ W2.heap.size = w.heap.size + 1 := by
 have hg : (w.alloc (.cells (madeCells #[.int .u8 0] s.size) 5)).heap[w.heap.size]? = some (.cells (madeCells #[.int .u8 0] s.size) 5 (0, 0)) := heap_alloc_new w _
 have hsz : (madeCells #[.int .u8 0] s.size).size = s.size := by simp [size_madeCells]
 refine ⟨_, Lib.run_copy_row_string (P := Tryd.prog) _ 46 9 3 5 w.heap.size 0 s.size s.size s (madeCells #[.int .u8 0] s.size) 5 Tryd.underlying46 lower_info1 hg (Nat.le_refl _) (by rw [hsz]; omega), ?_, ?_, ?_⟩
 · unfold LowBlk
   rw [setRow_heap _ w.heap.size _ _ 5 _ hg]
   congr 2
   simp only [List.take_zero, List.nil_append, Nat.zero_add]
   rw [List.drop_eq_nil_of_le (by rw [Array.length_toList, hsz]; exact Nat.le_refl _), List.append_nil]
   simp [lowCells, nums, Lib.byteCells]
 · exact (((Below.refl _ _).alloc (Nat.le_refl _) _)).trans ⟨rfl, rfl, rfl, by simp [World.setRow], fun k hk => setRow_other _ _ k _ (by omega)⟩
 · simp [World.setRow]
set_option maxHeartbeats 1000000 in
set_option maxRecDepth 100000 in
theorem ascii_Lower.calls (a0 : ByteArray) (r : ByteArray) (w : World) (h : ascii_Lower.f a0 = some r) :
    Calls Tryd.prog 40 #[.string a0] w fun e w' => e = .returned (.string r) ∧ Below w.heap.size w w' := by
 unfold ascii_Lower.f at h
 by_cases hs : a0.size ≤ 140737488355328
 · rw [if_pos hs] at h
   obtain rfl := Option.some.inj h
   clear h
   have hmk := print_make (P := Tryd.prog) 46 5 .u8 1 Tryd.underlying46 lower_info (by decide) a0.size (by omega)
   obtain ⟨W2, hcp, hb, hbel, hz⟩ := lower_copied w a0
   have HB := Lib.hid hb
   have HL := Lib.hid hbel
   clear hb hbel
   have HN := Lib.hid (show a0.data.toList.length = a0.size by rw [Array.length_toList]; rfl)
   go_enter Tryd.func40, Tryd.ntmps40
   go_wp2
   go_loopw [4, 5, 14] (fun _ _ i w' => ∃ k : Nat, k ≤ a0.size ∧ i = .int .i64 k ∧ Hid (LowBlk w' w.heap.size (lowCells a0.data.toList k)) ∧ Hid (Below w.heap.size w w')) (fun _ _ i _ => a0.size - (intOf i).toNat)
   case atStart => exact ⟨0, Nat.zero_le _, rfl, HB, HL⟩
   case round =>
    obtain ⟨k, hk, rfl, HBk, HLk⟩ := hrel
    clear hmk hcp HB HL
    by_cases hlt : k < a0.size
    · have hkl : k < a0.data.toList.length := by rw [HN.out]; exact hlt
      have hcell : wr.cell? ⟨w.heap.size, k, none⟩ = some (.int .u8 ((a0.data.toList[k]'hkl).toNat : Int)) := (HBk.out.cell k).trans (lowCells_get a0.data.toList k hkl)
      have hfro : wr.frozen? ⟨w.heap.size, k, none⟩ = false := HBk.out.frozen k
      have hc255 := (a0.data.toList[k]'hkl).toNat_lt
      have hlow := lowerB_nat (a0.data.toList[k]'hkl)
      by_cases hup : 65 ≤ ((a0.data.toList[k]'hkl).toNat : Int) ∧ ((a0.data.toList[k]'hkl).toNat : Int) ≤ 90
      · rw [if_pos hup] at hlow
        have HS : Hid (LowBlk (wr.setCell ⟨w.heap.size, k, none⟩ (.int .u8 (((a0.data.toList[k]'hkl).toNat : Int) + 32))) w.heap.size (lowCells a0.data.toList (k + 1))) := by
         show LowBlk _ _ _
         rw [← lowCells_set a0.data.toList k hkl, hlow]
         exact HBk.out.set_ k _
        have HL2 : Hid (Below w.heap.size w (wr.setCell ⟨w.heap.size, k, none⟩ (.int .u8 (((a0.data.toList[k]'hkl).toNat : Int) + 32)))) := HLk.out.setCell (Nat.le_refl _) _
        obtain ⟨h65, h90⟩ := hup
        have e1 : decide (65 ≤ ((a0.data.toList[k]'hkl).toNat : Int)) = true := decide_eq_true h65
        have e2 : decide (((a0.data.toList[k]'hkl).toNat : Int) ≤ 90) = true := decide_eq_true h90
        clear hlow HBk HLk HN
        generalize ((a0.data.toList[k]'hkl).toNat : Int) = c at *
        go_wp2
        go_roundw
        case rel => exact ⟨k + 1, by omega, by go_num, HS, HL2⟩
        case measure => simp [intOf]; omega
      · rw [if_neg hup] at hlow
        have HS : Hid (LowBlk wr w.heap.size (lowCells a0.data.toList (k + 1))) := by
         show LowBlk _ _ _
         rw [← lowCells_same a0.data.toList k hkl (UInt8.toNat_inj.1 (by omega))]
         exact HBk.out
        clear hlow HBk HN
        generalize ((a0.data.toList[k]'hkl).toNat : Int) = c at *
        by_cases h65 : 65 ≤ c
        · have e1 : decide (65 ≤ c) = true := decide_eq_true h65
          have e2 : decide (c ≤ 90) = false := decide_eq_false (by omega)
          clear hup
          go_wp2
          go_roundw
          case rel => exact ⟨k + 1, by omega, by go_num, HS, HLk⟩
          case measure => simp [intOf]; omega
        · have e1 : decide (65 ≤ c) = false := decide_eq_false h65
          clear hup
          go_wp2
          go_roundw
          case rel => exact ⟨k + 1, by omega, by go_num, HS, HLk⟩
          case measure => simp [intOf]; omega
    · obtain rfl : k = a0.size := by omega
      have hcv : (convert 46 9 (.slice (some ⟨w.heap.size, 0, none⟩) a0.size a0.size)).run Tryd.prog wr = .ok (.string (lowerS a0)) wr := by
       have hx := run_convert_bytes_arg (P := Tryd.prog) wr 46 5 Tryd.underlying46 Tryd.underlying5 w.heap.size 0 a0.size a0.size ((a0.data.toList.map lowerB).map fun b => (b.toNat : Int)) (by simp [HN.out]) (fun i hi => by
        rw [Nat.zero_add, HBk.out.cell i]
        have hil : i < a0.data.toList.length := by rw [HN.out]; exact hi
        have hia : i < a0.data.size := by rw [← Array.length_toList]; exact hil
        simp [lowCells, nums, List.take_of_length_le (Nat.le_of_eq HN.out), List.drop_eq_nil_of_le (Nat.le_of_eq HN.out), Array.getElem?_eq_getElem hia]) 9 Tryd.underlying9
       rw [hx]
       congr 2
       simp [strOfNums, lowerS, Function.comp_def]
      clear HN HBk
      go_wp2
      go_ret
      exact ⟨rfl, HLk.out⟩
 · rw [if_neg hs] at h; cases h
end Go.Proofs.YtldaingkcnmaoaaDoor.X
