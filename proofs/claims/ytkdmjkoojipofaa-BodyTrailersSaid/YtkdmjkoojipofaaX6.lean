-- Written for this claim by a program of this session (wip/xprint.py). Not trusted: Lean checks it.
import Derived.Test.YtkdmjkoojipofaaX0
namespace Go.Proofs.Ytkdmjkoojipofaa.X
open Go.RowKit Go.Proofs.YtkdmjkoojipofaaW.PrintWords Go.Proofs.YtkdmjkoojipofaaW.PrintLast Go.Proofs.YtkdmjkoojipofaaW.PrintMore
attribute [local go_sem] max2_int min2_int max_two min_two max_three min_three max_four min_four   -- for this text's walks alone
set_option linter.unusedVariables false
set_option linter.unusedSimpArgs false

/-! ### body_New: function 17 -/
def newB (n : Int) : BodyS := { ch := decide (n < 0), left := if n < 0 then 0 else n, st := 0, line := [], data := [], status := 0, done := n == 0 }
def body_New.f (a0 : Int) : Option BodyS := some (newB a0)
theorem body_new_at (w : World) (b : BodyS) (hl : b.line = []) (hd : b.data = []) :
    BodyAt (w.alloc (.cells #[.bool b.ch, .int .i64 b.left, .int .i64 b.st, .slice none 0 0, .slice none 0 0, .int .i64 b.status, .bool b.done] 42)) (bas w.heap.size) w.heap.size (.slice none 0 0) (.slice none 0 0) b :=
  ⟨Nat.le_refl _, by simpa using heap_alloc_new w _, by unfold OwnBytes; rw [hl]; exact own_nil _ _ _ _, by unfold OwnBytes; rw [hd]; exact own_nil _ _ _ _, .inl rfl, fun _ _ hj => hj.elim⟩
set_option maxRecDepth 100000 in
theorem body_New.calls (a0 : Int) (r : BodyS) (w : World) (h : body_New.f a0 = some r) :
    Calls Try.prog 17 #[.int .i64 a0] w fun e w' => ∃ V, e = .returned V ∧ BodyOwn w' (bas w.heap.size) V r ∧ Below w.heap.size w w' := by
  have hr := Option.some.inj h
  clear h
  by_cases hn : a0 < 0
  · have HR := Lib.hid (show r = { ({ ch := true, left := 0, st := 0, line := [], data := [], status := 0, done := false } : BodyS) with done := false } by
      rw [← hr, newB]; simp [hn, show ¬ a0 = 0 by omega])
    have t1 : decide (a0 < 0) = true := decide_eq_true hn
    have t2 : (a0 == 0) = false := beq_eq_false_iff_ne.2 (by omega)
    clear hr
    go_enter Try.func17, Try.ntmps17
    go_wp2
    go_ret
    exact ⟨_, rfl, ⟨w.heap.size, _, _, rfl, by rw [HR.out]; exact body_new_at w { ch := true, left := 0, st := 0, line := [], data := [], status := 0, done := false } rfl rfl⟩, (Below.refl _ _).alloc (Nat.le_refl _) _⟩
  · have t1 : decide (a0 < 0) = false := decide_eq_false hn
    have HR := Lib.hid (show r = { ({ ch := false, left := a0, st := 0, line := [], data := [], status := 0, done := false } : BodyS) with done := (a0 == 0) } by
      rw [← hr, newB]; simp [hn])
    have t3 : 0 ≤ a0 := by omega
    clear hr hn
    go_enter Try.func17, Try.ntmps17
    go_wp2
    go_ret
    exact ⟨_, rfl, ⟨w.heap.size, _, _, rfl, by rw [HR.out]; exact body_new_at w { ch := false, left := a0, st := 0, line := [], data := [], status := 0, done := (a0 == 0) } rfl rfl⟩, (Below.refl _ _).alloc (Nat.le_refl _) _⟩

/-! ### ascii_letter: function 26 -/
def ascii_letter.f (a0 : Int) : Option (Bool) := if (Go.bits .or .u8 a0 32) ≥ 97 then (some (decide ((Go.bits .or .u8 a0 32) ≤ 122))) else (some false)
set_option maxHeartbeats 8000000 in
set_option maxRecDepth 100000 in
theorem ascii_letter.calls (a0 : Int) (r : Bool) (w : World) (h : ascii_letter.f a0 = some r) :
    Calls Try.prog 26 #[.int .u8 a0] w fun e w' => e = .returned (.bool r) ∧ Drawn0 w w' := by
  have H : (if (Go.bits .or .u8 a0 32) ≥ 97 then (some (decide ((Go.bits .or .u8 a0 32) ≤ 122))) else (some false)) = some r := h
  clear h
  by_cases c2 : (Go.bits .or .u8 a0 32) ≥ 97
  · rw [if_pos c2] at H
    have c2b0 : decide (97 ≤ (Go.bits .or .u8 a0 32)) = true := decide_eq_true c2
    clear c2
    obtain rfl := Option.some.inj H
    go_enter Try.func26, Try.ntmps26
    go_wp2
    go_ret
    exact ⟨by first | rfl | (simp; done) | (simp [*]; done), by repeat (first | exact Drawn0.refl _ | apply Drawn0.step)⟩
  · rw [if_neg c2] at H
    have c2b0 : decide (97 ≤ (Go.bits .or .u8 a0 32)) = false := decide_eq_false c2
    clear c2
    obtain rfl := Option.some.inj H
    go_enter Try.func26, Try.ntmps26
    go_wp2
    go_ret
    exact ⟨by first | rfl | (simp; done) | (simp [*]; done), by repeat (first | exact Drawn0.refl _ | apply Drawn0.step)⟩

end Go.Proofs.Ytkdmjkoojipofaa.X
