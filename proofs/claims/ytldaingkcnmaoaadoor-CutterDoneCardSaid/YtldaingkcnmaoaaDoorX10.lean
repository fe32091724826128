-- Made smaller by wip/squeeze.py out of this claim's texts. Not trusted: Lean checks it.
import Derived.Test.YtldaingkcnmaoaaDoorX0
namespace Go.Proofs.YtldaingkcnmaoaaDoor.X
open Go.RowKit Go.Proofs.YtldaingkcnmaoaaDoorW.PrintWords Go.Proofs.YtldaingkcnmaoaaDoorW.PrintLast Go.Proofs.YtldaingkcnmaoaaDoorW.PrintMore
attribute [local go_sem] max2_int min2_int max_two min_two max_three min_three max_four min_four
set_option linter.unusedVariables false
set_option linter.unusedSimpArgs false
def goodB (b : UInt8) : Bool := ! (decide (b.toNat < 32) && b.toNat != 9 || b.toNat == 127)
def okFrom (s : ByteArray) (pos : Nat) : Bool := (s.data.toList.drop pos).all goodB
theorem okFrom_end (s : ByteArray) (pos : Nat) (h : ¬ pos < s.size) : okFrom s pos = true := by
 have : s.data.toList.length = s.size := by rw [Array.length_toList]; rfl
 rw [okFrom, List.drop_eq_nil_of_le (by omega)]; rfl
theorem okFrom_step (s : ByteArray) (pos : Nat) (h : pos < s.size) : okFrom s pos = (goodB (s[pos]'h) && okFrom s (pos + 1)) := by
 have hl : pos < s.data.toList.length := by rw [Array.length_toList]; exact h
 rw [okFrom, List.drop_eq_getElem_cons hl, List.all_cons]; rfl
theorem okFrom_skip (s : ByteArray) (n : Nat) : ∀ pos, (∀ j, pos ≤ j → j < pos + n → ∀ hj : j < s.size, 128 ≤ (s[j]'hj).toNat) → okFrom s pos = okFrom s (pos + n) := by
 induction n with
 | zero => intro pos _; rfl
 | succ n ih =>
  intro pos hh
  by_cases hp : pos < s.size
  · have hg : goodB (s[pos]'hp) = true := by have := hh pos (Nat.le_refl _) (by omega) hp; simp [goodB]; omega
    rw [okFrom_step s pos hp, hg, Bool.true_and, ih (pos + 1) (fun j h1 h2 => hh j (by omega) (by omega))]
    congr 1; omega
  · rw [okFrom_end s pos hp, okFrom_end s (pos + (n + 1)) (by omega)]
theorem get_bang (s : ByteArray) (j : Nat) (h : j < s.size) : s.get! j = s[j]'h := by
 simp [ByteArray.get!, getElem!_pos, h]; rfl
theorem decode_conts (s : ByteArray) (pos : Nat) (h : pos < s.size) (ha : 128 ≤ (s[pos]'h).toNat) : ∀ j, pos ≤ j → j < pos + (Utf8.decode s pos).2 → ∀ hj : j < s.size, 128 ≤ (s[j]'hj).toNat := by
 intro j h1 h2 hj
 rcases Nat.eq_or_lt_of_le h1 with rfl | h3
 · exact ha
 obtain ⟨k, rfl⟩ : ∃ k, j = pos + k := ⟨j - pos, by omega⟩
 have hk : 0 < k := by omega
 have hk2 : k < (Utf8.decode s pos).2 := by omega
 rw [← get_bang s (pos + k) hj]
 clear h1 h2 h3
 have h128 : ¬ (s.get! (pos + 0)).toNat < 128 := by rw [Nat.add_zero, get_bang s pos h]; omega
 unfold Utf8.decode at hk2
 simp only [if_neg h128] at hk2
 split at hk2
 · rename_i hc
   simp only [Bool.and_eq_true, decide_eq_true_eq, beq_iff_eq] at hc
   split at hk2
   · have : k = 1 := by simp only at hk2; omega
     subst this; omega
   · simp only at hk2; omega
 · split at hk2
   · rename_i hc
     simp only [Bool.and_eq_true, decide_eq_true_eq, beq_iff_eq] at hc
     split at hk2
     · have : k = 1 ∨ k = 2 := by simp only at hk2; omega
       rcases this with rfl | rfl <;> omega
     · simp only at hk2; omega
   · split at hk2
     · rename_i hc
       simp only [Bool.and_eq_true, decide_eq_true_eq, beq_iff_eq] at hc
       split at hk2
       · have : k = 1 ∨ k = 2 ∨ k = 3 := by simp only at hk2; omega
         rcases this with rfl | rfl | rfl <;> omega
       · simp only at hk2; omega
     · simp only at hk2; omega
theorem below_iter (w : World) (s : ByteArray) (pos : Nat) : Below w.heap.size w (w.iter s pos) := (Below.refl _ _).alloc (Nat.le_refl _) _
def ascii_Value.f (a0 : ByteArray) : Option Bool := some (okFrom a0 0)
set_option maxHeartbeats 1000000 in
set_option maxRecDepth 100000 in
theorem ascii_Value.calls (a0 : ByteArray) (r : Bool) (w : World) (h : ascii_Value.f a0 = some r) :
    Calls Tryd.prog 29 #[.string a0] w fun e w' => e = .returned (.bool r) ∧ Below w.heap.size w w' := by
 have HR : Hid (okFrom a0 0 = r) := Option.some.inj h
 clear h
 go_enter Tryd.func29, Tryd.ntmps29
 go_wp2
 go_loopw [4] (fun _ w' => ∃ pos : Nat, w' = w.iter a0 pos ∧ Hid (okFrom a0 pos = r)) (fun _ w' => a0.size - w'.iterPos w.heap.size)
 case atStart => exact ⟨0, rfl, HR⟩
 case round =>
  obtain ⟨pos, rfl, HP⟩ := hrel
  clear HR
  by_cases hp : pos < a0.size
  · have hnx : ∀ ty, (Instr.next (.pointer (some ⟨w.heap.size, 0, none⟩)) true ty).run Tryd.prog (w.iter a0 pos) = _ := fun ty => run_next_any w a0 pos ty hp
    have hwd : 1 ≤ (Utf8.decode a0 pos).2 := by
     by_cases ha : (a0[pos]'hp).toNat < 128
     · rw [decode_ascii a0 pos hp ha]; exact Nat.le_refl _
     · exact (decode_high a0 pos hp (by omega)).2
    have HS : Hid (r = (! (decide (((Utf8.decode a0 pos).1 : Int) < 32) && ((Utf8.decode a0 pos).1 : Int) != 9 || ((Utf8.decode a0 pos).1 : Int) == 127) && okFrom a0 (pos + (Utf8.decode a0 pos).2))) := by
     rw [← HP.out]
     by_cases ha : (a0[pos]'hp).toNat < 128
     · rw [okFrom_step a0 pos hp, decode_ascii a0 pos hp ha]
       congr 1
       simp only [goodB]
       rw [Bool.eq_iff_iff]
       simp
       omega
     · have h2 := (decode_high a0 pos hp (by omega)).1
       rw [okFrom_skip a0 (Utf8.decode a0 pos).2 pos (decode_conts a0 pos hp (by omega))]
       rw [show decide (((Utf8.decode a0 pos).1 : Int) < 32) = false from decide_eq_false (by omega), show (((Utf8.decode a0 pos).1 : Int) == 127) = false from beq_eq_false_iff_ne.2 (by omega)]
       show okFrom a0 (pos + (Utf8.decode a0 pos).2) = (! (false && ((Utf8.decode a0 pos).1 : Int) != 9 || false) && okFrom a0 (pos + (Utf8.decode a0 pos).2))
       rw [Bool.false_and, Bool.or_false, Bool.not_false, Bool.true_and]
    generalize (Utf8.decode a0 pos).2 = wd at *
    generalize ((Utf8.decode a0 pos).1 : Int) = c at *
    clear HP
    by_cases h1 : c < 32
    · by_cases h2 : c = 9
      · have e1 : decide (c < 32) = true := decide_eq_true h1
        have e2 : (c != 9) = false := by simp [h2]
        have e3 : (c == 127) = false := by simp [h2]
        have HS2 : Hid (okFrom a0 (pos + wd) = r) := by rw [HS.out, e1, e2, e3]; rfl
        clear HS h1 h2
        go_wp2
        go_roundw
        case rel => exact ⟨pos + wd, rfl, HS2⟩
        case measure => simp; omega
      · have e1 : decide (c < 32) = true := decide_eq_true h1
        have e2 : (c != 9) = true := by simp [h2]
        have HS2 : Hid (r = false) := by rw [HS.out, e1, e2]; rfl
        clear HS h1 h2
        go_wp2
        go_ret
        exact ⟨by rw [HS2.out]; rfl, below_iter _ _ _⟩
    · by_cases h2 : c = 127
      · have e1 : decide (c < 32) = false := decide_eq_false h1
        have e3 : (c == 127) = true := by simp [h2]
        have HS2 : Hid (r = false) := by rw [HS.out, e1, e3]; rfl
        clear HS h1 h2
        go_wp2
        go_ret
        exact ⟨by rw [HS2.out]; rfl, below_iter _ _ _⟩
      · have e1 : decide (c < 32) = false := decide_eq_false h1
        have e3 : (c == 127) = false := by simp [h2]
        have HS2 : Hid (okFrom a0 (pos + wd) = r) := by rw [HS.out, e1, e3]; rfl
        clear HS h1 h2
        go_wp2
        go_roundw
        case rel => exact ⟨pos + wd, rfl, HS2⟩
        case measure => simp; omega
  · have hnx : ∀ ty, (Instr.next (.pointer (some ⟨w.heap.size, 0, none⟩)) true ty).run Tryd.prog (w.iter a0 pos) = _ := fun ty => run_next_end w a0 pos ty hp
    have HE : Hid (r = true) := by rw [← HP.out]; exact okFrom_end a0 pos hp
    go_wp2
    go_ret
    exact ⟨by rw [HE.out]; rfl, below_iter _ _ _⟩
end Go.Proofs.YtldaingkcnmaoaaDoor.X
