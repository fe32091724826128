-- Written for this claim by a program of this session (wip/xprint.py). Not trusted: Lean checks it.
import Derived.Test.YtkdmjkoojipofaaX0
import Derived.Test.YtkdmjkoojipofaaX1
import Derived.Test.YtkdmjkoojipofaaX5
import Derived.Test.YtkdmjkoojipofaaX6
namespace Go.Proofs.Ytkdmjkoojipofaa.X
open Go.RowKit Go.Proofs.YtkdmjkoojipofaaW.PrintWords Go.Proofs.YtkdmjkoojipofaaW.PrintLast Go.Proofs.YtkdmjkoojipofaaW.PrintMore
attribute [local go_sem] max2_int min2_int max_two min_two max_three min_three max_four min_four   -- for this text's walks alone
set_option linter.unusedVariables false
set_option linter.unusedSimpArgs false

/-! ### crossroadlaw03_Feed: function 10 -/
def lawFeedL : Nat → ByteArray → BodyS → Int → Option (BodyS × Int)
  | 0, _, _, _ => none
  | k + 1, s, b, n => if n < (s.size : Int) then (if b.done = true then some (b, n) else (if 0 ≤ n then (body_Body_Feed.f k b (bt s n)).bind fun b' => lawFeedL k s b' (wrap64 (n + 1)) else none)) else some (b, n)
def crossroadlaw03_Feed.f (k : Nat) (a0 : Int) (a1 : ByteArray) : Option (BodyS × Int) := lawFeedL k a1 (newB a0) 0
theorem lawFeedL_mono : ∀ k s b n, LeO (lawFeedL k s b n) (lawFeedL (k + 1) s b n)
  | 0 => fun _ _ _ r h => by simp [lawFeedL] at h
  | k + 1 => fun s b n => by
    rw [lawFeedL, lawFeedL]
    exact LeO.ite (LeO.ite (LeO.refl _) (LeO.ite (LeO.bind (body_Body_Feed.mono _ _ _) (fun _ => lawFeedL_mono k _ _ _)) (LeO.refl _))) (LeO.refl _)
theorem crossroadlaw03_Feed.mono : ∀ a0 a1 k, LeO (crossroadlaw03_Feed.f k a0 a1) (crossroadlaw03_Feed.f (k + 1) a0 a1) := fun a0 a1 k => lawFeedL_mono k a1 (newB a0) 0
set_option maxHeartbeats 1000000 in
set_option maxRecDepth 100000 in
theorem crossroadlaw03_Feed.calls (k : Nat) (a0 : Int) (a1 : ByteArray) (r : BodyS) (r1 : Int) (w : World) (h : crossroadlaw03_Feed.f k a0 a1 = some (r, r1)) :
    Calls Try.prog 10 #[.int .i64 a0, .string a1] w fun e w' => ∃ V, e = .returned (.tuple #[V, .int .i64 r1]) ∧ BodyOwn w' (bas w.heap.size) V r ∧ Below w.heap.size w w' := by
  have H0 := Aside0.mk h
  clear h
  go_enter Try.func10, Try.ntmps10
  go_wp2_with (go_at_call 17; refine (body_New.calls a0 (newB a0) _ rfl).mono ?_; rintro e w1 ⟨V, rfl, hO, hb⟩; have HO := Aside0.mk hO; have HB := Aside0.mk hb; clear hO hb)
  go_loopg [7] k (fun kq v7 w' => ∃ (n : Int) (b : BodyS), v7 = .int .i64 n ∧ Aside0 (lawFeedL kq a1 b n = some (r, r1)) ∧ Aside0 (kq ≤ k) ∧ Aside0 (BodyOwn w' (bas w.heap.size) V b) ∧ Aside0 (Below w.heap.size w w'))
  case atStart => exact ⟨0, newB a0, rfl, ⟨H0.out⟩, ⟨Nat.le_refl _⟩, ⟨HO.out⟩, ⟨HB.out⟩⟩
  case round =>
    clear HO HB H0
    obtain ⟨n, b, rfl, HA, HK, HO, HB⟩ := hrel
    cases gk with
    | zero => exact absurd HA.out (by simp [lawFeedL])
    | succ k1 =>
      have H := HA.out
      clear HA
      rw [lawFeedL] at H
      by_cases c1 : n < (a1.size : Int)
      · rw [if_pos c1] at H
        have t1 : decide (n < (a1.size : Int)) = true := decide_eq_true c1
        by_cases c2 : b.done = true
        · rw [if_pos c2] at H
          have hr := Option.some.inj H
          have HR := Aside0.mk hr
          have HD := Aside0.mk (show body_Body_Done.f b = some true by rw [body_Body_Done.f, c2])
          clear H c1 c2 hr
          go_wp2_with (go_at_call 13; refine (body_Body_Done.calls V (bas w.heap.size) b true _ HO.out HD.out).mono ?_; rintro e w' ⟨rfl, ⟨nd, rfl⟩⟩)
          obtain ⟨rfl, rfl⟩ := Prod.mk.inj HR.out
          go_ret2
          exact ⟨V, rfl, HO.out.drewN, pw_below_drewN HB.out nd⟩
        · rw [if_neg c2] at H
          by_cases c3 : 0 ≤ n
          · rw [if_pos c3] at H
            have t3 : decide (0 ≤ n) = true := decide_eq_true c3
            obtain ⟨b', hb', hn⟩ := Option.bind_eq_some_iff.1 H
            have AB := Aside0.mk hb'
            have H' := Aside0.mk hn
            have HD := Aside0.mk (show body_Body_Done.f b = some false by rw [body_Body_Done.f, eq_false_of_ne_true c2])
            clear H hb' hn c2
            have hx := bt_at a1 n
            have p1 := eq_true c3
            have q1 := eq_true c1
            clear c3 c1
            go_wp2_with (first
              | (go_at_call 13; refine (body_Body_Done.calls V (bas w.heap.size) b false _ HO.out HD.out).mono ?_; rintro e w' ⟨rfl, ⟨nd, rfl⟩⟩)
              | (go_at_call 14; refine (body_Body_Feed.calls k1 V (bas w.heap.size) b (bt a1 n) b' _ HO.out.drewN AB.out).mono ?_; rintro e w9 ⟨rfl, hO9, hB9⟩))
            have H9 := Aside0.mk hO9
            have HB9 := Aside0.mk ((pw_below_drewN HB.out nd).trans hB9)
            go_roundg k1
            case measure => have := HK.out; omega
            case rel => exact ⟨wrap64 (n + 1), b', rfl, H', ⟨by have := HK.out; omega⟩, H9, HB9⟩
          · rw [if_neg c3] at H; exact absurd H (by simp)
      · rw [if_neg c1] at H
        have t1 : decide (n < (a1.size : Int)) = false := decide_eq_false c1
        have HR := Aside0.mk (Option.some.inj H)
        clear H c1
        obtain ⟨rfl, rfl⟩ := Prod.mk.inj HR.out
        go_wp2
        go_ret2
        exact ⟨V, rfl, HO.out, HB.out⟩

end Go.Proofs.Ytkdmjkoojipofaa.X
