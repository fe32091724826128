-- Written for this claim by a program of this session (wip/xprint.py). Not trusted: Lean checks it.
import Derived.Test.YtaafeojjcfognaaX0
import Derived.Test.YtaafeojjcfognaaX15
import Derived.Test.YtaafeojjcfognaaX16
namespace Go.Proofs.Ytaafeojjcfognaa.X
open Go.RowKit Go.Proofs.YtaafeojjcfognaaW.PrintWords Go.Proofs.YtaafeojjcfognaaW.PrintLast Go.Proofs.YtaafeojjcfognaaW.PrintMore
attribute [local go_sem] max2_int min2_int max_two min_two max_three min_three max_four min_four   -- for this text's walks alone
set_option linter.unusedVariables false
set_option linter.unusedSimpArgs false

/-! ### crossroadlaw02_HeadMany: function 4 -/
mutual
def crossroadlaw02_HeadMany.l0 : Nat → Int → List ByteArray → Int → Int → Option (Bool)
  | 0, _, _, _, _ => none
  | k + 1, x0, x13, x14, x15 => if x15 < x14 then (if 0 < (x13.length : Int) then (if (rdOf ByteArray.empty x13 0).size + 1 ≤ 9223372036854775807 then (crossroadlaw02_HeadMany.l0 k x0 (x13.set (0 : Int).toNat ((rdOf ByteArray.empty x13 0) ++ (⟨#[120]⟩ : ByteArray))) x14 (wrap64 (x15 + 1))) else (none)) else (none)) else (if 0 < (x13.length : Int) then (if (rdOf ByteArray.empty x13 0).size + 9 ≤ 9223372036854775807 then (crossroadlaw02_HeadMany.l1 k x0 (x13.set (0 : Int).toNat ((rdOf ByteArray.empty x13 0) ++ (⟨#[32, 72, 84, 84, 80, 47, 49, 46, 49]⟩ : ByteArray))) x0 0) else (none)) else (none))
def crossroadlaw02_HeadMany.l1 : Nat → Int → List ByteArray → Int → Int → Option (Bool)
  | 0, _, _, _, _ => none
  | k + 1, x0, x5, x28, x29 => if x29 < x28 then (if x5.length < 8796093022208 then (crossroadlaw02_HeadMany.l1 k x0 (x5 ++ [(⟨#[102, 58, 32, 118]⟩ : ByteArray)]) x28 (wrap64 (x29 + 1))) else (none)) else ((head_Parse.f k x5).bind fun bt290 => (if (wrap64 (x0 + 1)) > 16 then (crossroadlaw02_HeadMany.j2 k x0 true bt290.1 bt290.2.1 bt290.2.2.1 bt290.2.2.2.1 bt290.2.2.2.2.1 bt290.2.2.2.2.2.1 bt290.2.2.2.2.2.2) else (if 0 < (x5.length : Int) then (crossroadlaw02_HeadMany.j2 k x0 (decide (((rdOf ByteArray.empty x5 0).size : Int) > 200)) bt290.1 bt290.2.1 bt290.2.2.1 bt290.2.2.2.1 bt290.2.2.2.2.1 bt290.2.2.2.2.2.1 bt290.2.2.2.2.2.2) else (none))))
def crossroadlaw02_HeadMany.j2 : Nat → Int → Bool → ByteArray → ByteArray → List (S27) → ByteArray → Bool → Int → Int → Option (Bool)
  | 0, _, _, _, _, _, _, _, _, _ => none
  | k + 1, x0, x46, x300000, x300001, x300002, x300003, x300004, x300005, x300006 => if x46 = true then (some (x300006 == 431)) else (if x300006 = 0 then (if (x300002.length : Int) = (wrap64 (x0 + 1)) then ((head_Parse.f k ([] : List ByteArray)).bind fun bt301 => (if (bt301.2.2.1.length : Int) = 0 then ((head_Parse.f k ([] : List ByteArray)).bind fun bt310 => (some (bt310.2.2.2.2.2.2 == 400))) else (some false))) else (some false)) else (some false))
end
def crossroadlaw02_HeadMany.f (k : Nat) (a0 : Int) (a1 : Int) : Option (Bool) := (crossroadlaw02_fit.f k).bind fun t279 => (if t279 = true then (crossroadlaw02_HeadMany.l0 k (Go.bits .and .i64 a0 31) (([(⟨#[71, 69, 84, 32, 47]⟩ : ByteArray), (⟨#[104, 111, 115, 116, 58, 32, 97]⟩ : ByteArray)] : List ByteArray)) (Go.bits .and .i64 a1 511) 0) else (some false))
theorem crossroadlaw02_HeadMany.mono_l : ∀ k, (∀ y0 y1 y2 y3, LeO (crossroadlaw02_HeadMany.l0 k y0 y1 y2 y3) (crossroadlaw02_HeadMany.l0 (k + 1) y0 y1 y2 y3)) ∧ (∀ y0 y1 y2 y3, LeO (crossroadlaw02_HeadMany.l1 k y0 y1 y2 y3) (crossroadlaw02_HeadMany.l1 (k + 1) y0 y1 y2 y3)) ∧ (∀ y0 y1 y2 y3 y4 y5 y6 y7 y8, LeO (crossroadlaw02_HeadMany.j2 k y0 y1 y2 y3 y4 y5 y6 y7 y8) (crossroadlaw02_HeadMany.j2 (k + 1) y0 y1 y2 y3 y4 y5 y6 y7 y8))
  | 0 => ⟨fun _ _ _ _ r h => by simp [crossroadlaw02_HeadMany.l0] at h, fun _ _ _ _ r h => by simp [crossroadlaw02_HeadMany.l1] at h, fun _ _ _ _ _ _ _ _ _ r h => by simp [crossroadlaw02_HeadMany.j2] at h⟩
  | k + 1 => by
    obtain ⟨ih0, ih1, ih2⟩ := crossroadlaw02_HeadMany.mono_l k
    refine ⟨?_, ?_, ?_⟩
    · intro y0 y1 y2 y3
      unfold crossroadlaw02_HeadMany.l0
      repeat' first
      | (with_reducible exact ih0 _ _ _ _)
      | (with_reducible exact ih1 _ _ _ _)
      | (with_reducible exact ih2 _ _ _ _ _ _ _ _ _)
      | (with_reducible exact crossroadlaw02_fit.mono _)
      | (with_reducible exact head_Parse.mono _ _)
      | (with_reducible exact LeO.refl _)
      | (with_reducible exact LeO.none _)
      | (with_reducible refine LeO.ite ?_ ?_)
      | (with_reducible refine LeO.bind ?_ (fun _ => ?_))
      | exact ih0 _ _ _ _
      | exact ih1 _ _ _ _
      | exact ih2 _ _ _ _ _ _ _ _ _
      | exact crossroadlaw02_fit.mono _
      | exact head_Parse.mono _ _
      | exact LeO.none _
      | refine LeO.ite ?_ ?_
      | refine LeO.bind ?_ (fun _ => ?_)
    · intro y0 y1 y2 y3
      unfold crossroadlaw02_HeadMany.l1
      repeat' first
      | (with_reducible exact ih0 _ _ _ _)
      | (with_reducible exact ih1 _ _ _ _)
      | (with_reducible exact ih2 _ _ _ _ _ _ _ _ _)
      | (with_reducible exact crossroadlaw02_fit.mono _)
      | (with_reducible exact head_Parse.mono _ _)
      | (with_reducible exact LeO.refl _)
      | (with_reducible exact LeO.none _)
      | (with_reducible refine LeO.ite ?_ ?_)
      | (with_reducible refine LeO.bind ?_ (fun _ => ?_))
      | exact ih0 _ _ _ _
      | exact ih1 _ _ _ _
      | exact ih2 _ _ _ _ _ _ _ _ _
      | exact crossroadlaw02_fit.mono _
      | exact head_Parse.mono _ _
      | exact LeO.none _
      | refine LeO.ite ?_ ?_
      | refine LeO.bind ?_ (fun _ => ?_)
    · intro y0 y1 y2 y3 y4 y5 y6 y7 y8
      unfold crossroadlaw02_HeadMany.j2
      repeat' first
      | (with_reducible exact ih0 _ _ _ _)
      | (with_reducible exact ih1 _ _ _ _)
      | (with_reducible exact ih2 _ _ _ _ _ _ _ _ _)
      | (with_reducible exact crossroadlaw02_fit.mono _)
      | (with_reducible exact head_Parse.mono _ _)
      | (with_reducible exact LeO.refl _)
      | (with_reducible exact LeO.none _)
      | (with_reducible refine LeO.ite ?_ ?_)
      | (with_reducible refine LeO.bind ?_ (fun _ => ?_))
      | exact ih0 _ _ _ _
      | exact ih1 _ _ _ _
      | exact ih2 _ _ _ _ _ _ _ _ _
      | exact crossroadlaw02_fit.mono _
      | exact head_Parse.mono _ _
      | exact LeO.none _
      | refine LeO.ite ?_ ?_
      | refine LeO.bind ?_ (fun _ => ?_)
theorem crossroadlaw02_HeadMany.mono : ∀ a0 a1 k, LeO (crossroadlaw02_HeadMany.f k a0 a1) (crossroadlaw02_HeadMany.f (k + 1) a0 a1) := by
  intro a0 a1 k
  obtain ⟨ih0, ih1, ih2⟩ := crossroadlaw02_HeadMany.mono_l k
  unfold crossroadlaw02_HeadMany.f
  repeat' first
      | (with_reducible exact ih0 _ _ _ _)
      | (with_reducible exact ih1 _ _ _ _)
      | (with_reducible exact ih2 _ _ _ _ _ _ _ _ _)
      | (with_reducible exact crossroadlaw02_fit.mono _)
      | (with_reducible exact head_Parse.mono _ _)
      | (with_reducible exact LeO.refl _)
      | (with_reducible exact LeO.none _)
      | (with_reducible refine LeO.ite ?_ ?_)
      | (with_reducible refine LeO.bind ?_ (fun _ => ?_))
      | exact ih0 _ _ _ _
      | exact ih1 _ _ _ _
      | exact ih2 _ _ _ _ _ _ _ _ _
      | exact crossroadlaw02_fit.mono _
      | exact head_Parse.mono _ _
      | exact LeO.none _
      | refine LeO.ite ?_ ?_
      | refine LeO.bind ?_ (fun _ => ?_)
set_option maxHeartbeats 8000000 in
set_option maxRecDepth 100000 in
theorem crossroadlaw02_HeadMany.calls (k : Nat) (a0 : Int) (a1 : Int) (r : Bool) (w : World) (h : crossroadlaw02_HeadMany.f k a0 a1 = some r) :
    Calls Try.prog 4 #[.int .i64 a0, .int .i64 a1] w fun e w' => e = .returned (.bool r) ∧ Below w.heap.size w w' := by
  have hu32 := Try.underlying32
  have hfd32_0 : ∀ (z0 z1 z2 z3 z4 z5 z6 : Value) (W : World), (Instr.field 32 (.agg #[z0, z1, z2, z3, z4, z5, z6]) 0).run Try.prog W = .ok (.agg #[z0, z1, z2, z3, z4]) W := fun z0 z1 z2 z3 z4 z5 z6 W => by rfl
  have hfd30_2 : ∀ (z0 z1 z2 z3 z4 : Value) (W : World), (Instr.field 30 (.agg #[z0, z1, z2, z3, z4]) 2).run Try.prog W = .ok (z2) W := fun z0 z1 z2 z3 z4 W => by rfl
  have hfd32_2 : ∀ (z0 z1 z2 z3 z4 z5 z6 : Value) (W : World), (Instr.field 32 (.agg #[z0, z1, z2, z3, z4, z5, z6]) 2).run Try.prog W = .ok (z6) W := fun z0 z1 z2 z3 z4 z5 z6 W => by rfl
  have HB := Aside0.mk (Below.refl w.heap.size w)
  have H : ((crossroadlaw02_fit.f k).bind fun t279 => (if t279 = true then (crossroadlaw02_HeadMany.l0 k (Go.bits .and .i64 a0 31) (([(⟨#[71, 69, 84, 32, 47]⟩ : ByteArray), (⟨#[104, 111, 115, 116, 58, 32, 97]⟩ : ByteArray)] : List ByteArray)) (Go.bits .and .i64 a1 511) 0) else (some false))) = some r := h
  clear h
  replace H := Option.bind_eq_some_iff.mp H
  obtain ⟨t279, A30, H⟩ := H
  replace H : (if t279 = true then (crossroadlaw02_HeadMany.l0 k (Go.bits .and .i64 a0 31) (([(⟨#[71, 69, 84, 32, 47]⟩ : ByteArray), (⟨#[104, 111, 115, 116, 58, 32, 97]⟩ : ByteArray)] : List ByteArray)) (Go.bits .and .i64 a1 511) 0) else (some false)) = some r := H
  have A3 := Aside0.mk A30
  clear A30
  by_cases c4 : t279 = true
  · subst c4
    have H1 : (crossroadlaw02_HeadMany.l0 k (Go.bits .and .i64 a0 31) (([(⟨#[71, 69, 84, 32, 47]⟩ : ByteArray), (⟨#[104, 111, 115, 116, 58, 32, 97]⟩ : ByteArray)] : List ByteArray)) (Go.bits .and .i64 a1 511) 0) = some r := by rw [if_pos rfl] at H; exact H
    clear H
    have H := H1
    clear H1
    obtain ⟨y280, hy280⟩ : ∃ y_ : List ByteArray, y_ = (([(⟨#[71, 69, 84, 32, 47]⟩ : ByteArray), (⟨#[104, 111, 115, 116, 58, 32, 97]⟩ : ByteArray)] : List ByteArray)) := ⟨_, rfl⟩
    replace H : (crossroadlaw02_HeadMany.l0 k (Go.bits .and .i64 a0 31) y280 (Go.bits .and .i64 a1 511) 0) = some r := by first | (rw [hy280]; with_reducible exact H) | (have H2_ := (Option.bind_some _ _).symm.trans H; rw [hy280]; with_reducible exact H2_) | (have H2_ := (Option.bind_some _ _).symm.trans H; with_reducible exact H2_) | with_reducible exact H | (rw [hy280]; exact H) | exact H
    have Ny280 := Aside0.mk hy280
    clear hy280
    have H' := Aside0.mk H
    clear H
    go_enter Try.func4, Try.ntmps4
    go_wp2_with (first | ((with_reducible refine gate_callee (f := 9) rfl ?_); refine goesL_ (some 7) rfl rfl Try.func9 (by kernel_rfl) rfl #[] rfl (by (try simp only [List.map_toArray, List.map_cons, List.map_nil]); first | done | rfl | (simp only [List.length_drop, List.length_take]; rfl)) ?_; (with_reducible refine (crossroadlaw02_fit.calls k  true _ A3.out).mono ?_); rintro e w5 ⟨rfl, hb⟩; refine ⟨_, rfl, ?_⟩; have n0_ := Aside0.mk (below_step (by repeat (first | (with_reducible first | exact HB.out | apply below_alloc | apply pw_below_drewN | apply below_drew1) | exact HB.out)) hb); clear HB; have HB := n0_; clear n0_; (try clear hb); (try clear hb2); (try clear hk); (try clear hi)) | ((with_reducible refine gate_dst (N := 13) rfl ?_); (try (refine gate_guard (by rfl) ?_; dsimp only)); refine Kd.R_lit Kd.string _ 9 ?hg (N := 13) ?hd (xs := ([(⟨#[71, 69, 84, 32, 47]⟩ : ByteArray), (⟨#[104, 111, 115, 116, 58, 32, 97]⟩ : ByteArray)] : List ByteArray)) (inner := [.string (⟨#[71, 69, 84, 32, 47]⟩ : ByteArray), .string (⟨#[104, 111, 115, 116, 58, 32, 97]⟩ : ByteArray)]) (ok := fun _ => True) (okp := fun _ => True) ?hr ?hp (fun _ hk => hk) trivial (Below.refl _ _) (Nat.le_refl _) (by simp) ?_; (case hd => rfl); (case hg => rfl); (case hr => first | (go_simp; done) | (go_simp; rfl)); (case hp => exact (Reps.one (show Kd.M Kd.string _ _ _ (⟨#[71, 69, 84, 32, 47]⟩ : ByteArray) [.string (⟨#[71, 69, 84, 32, 47]⟩ : ByteArray)] from rfl) (Reps.one (show Kd.M Kd.string _ _ _ (⟨#[104, 111, 115, 116, 58, 32, 97]⟩ : ByteArray) [.string (⟨#[104, 111, 115, 116, 58, 32, 97]⟩ : ByteArray)] from rfl) (Reps.none _ _)))); intro v281 w6 ho7 hb hg_ hnew_; clear hg_ hnew_; (first | rw [← Ny280.out] at ho7 | (simp only [Int.reduceToNat] at ho7; rw [← Ny280.out] at ho7)); have n0_ := Aside0.mk (Kd.R_lower ho7 (below_size (by repeat (first | (with_reducible first | exact HB.out | apply below_alloc | apply pw_below_drewN | apply below_drew1) | exact HB.out)))); have n1_ := Aside0.mk (below_step (by repeat (first | (with_reducible first | exact HB.out | apply below_alloc | apply pw_below_drewN | apply below_drew1) | exact HB.out)) hb); clear HB; have HO282 := n0_; have HB := n1_; clear n0_ n1_; clear hb ho7))
    go_loopg [15] k (fun kq v15 w' => ∃ (x13_1 : List ByteArray) (x15_1 : Int), v15 = .int .i64 x15_1 ∧ Aside0 (crossroadlaw02_HeadMany.l0 kq (Go.bits .and .i64 a0 31) x13_1 (Go.bits .and .i64 a1 511) x15_1 = some r) ∧ Aside0 (kq ≤ k) ∧ Aside0 (Kd.R Kd.string 9 w' w.heap.size (fun _ => True) v281 x13_1) ∧ Aside0 (Below w.heap.size w w'))
    case atStart => exact ⟨(y280), (0), (by first | rfl | (simp; done) | (simp [*]; done)), H', ⟨Nat.le_refl _⟩, ⟨by (with_reducible repeat (first | apply Kd.R_alloc | apply Kd.R_drewN | apply Kd.R_drew)); exact HO282.out⟩, ⟨by repeat (first | (with_reducible first | exact HB.out | apply below_alloc | apply pw_below_drewN | apply below_drew1) | exact HB.out)⟩⟩
    case round =>
      clear H'
      try clear p2
      try clear c4
      obtain ⟨x13_1, x15_1, rfl, HA, HK1, HO_13, HB⟩ := hrel
      cases gk with
      | zero => exact absurd HA.out (by simp [crossroadlaw02_HeadMany.l0])
      | succ k1 =>
        have H := HA.out
        clear HA
        simp only [crossroadlaw02_HeadMany.l0] at H
        by_cases c8 : x15_1 < (Go.bits .and .i64 a1 511)
        · rw [if_pos c8] at H
          have c8b0 : decide (x15_1 < (Go.bits .and .i64 a1 511)) = true := decide_eq_true c8
          clear c8
          by_cases c9 : 0 < (x13_1.length : Int)
          · rw [if_pos c9] at H
            have c9b0 : decide (0 < (x13_1.length : Int)) = true := decide_eq_true c9
            have c9b1 : decide (0 < x13_1.length) = true := decide_eq_true (by omega)
            clear c9
            by_cases c10 : (rdOf ByteArray.empty x13_1 0).size + 1 ≤ 9223372036854775807
            · rw [if_pos c10] at H
              have c10b0 := eq_true c10
              have c10b1 : decide ((rdOf ByteArray.empty x13_1 0).size + 1 ≤ 9223372036854775807) = true := decide_eq_true c10
              try have c10b2 : (9223372036854775807 < (rdOf ByteArray.empty x13_1 0).size + 1) = False := eq_false (Nat.not_lt.2 c10)
              obtain ⟨y284, hy284⟩ : ∃ y_ : List ByteArray, y_ = (x13_1.set (0 : Int).toNat ((rdOf ByteArray.empty x13_1 0) ++ (⟨#[120]⟩ : ByteArray))) := ⟨_, rfl⟩
              replace H : (crossroadlaw02_HeadMany.l0 k1 (Go.bits .and .i64 a0 31) y284 (Go.bits .and .i64 a1 511) (wrap64 (x15_1 + 1))) = some r := by first | (rw [hy284]; with_reducible exact H) | (have H2_ := (Option.bind_some _ _).symm.trans H; rw [hy284]; with_reducible exact H2_) | (have H2_ := (Option.bind_some _ _).symm.trans H; with_reducible exact H2_) | with_reducible exact H | (rw [hy284]; exact H) | exact H
              have Ny284 := Aside0.mk hy284
              clear hy284
              have H' := Aside0.mk H
              clear H
              obtain ⟨Ao12, co12, eo12⟩ := Kd.R_slice HO_13.out
              subst eo12
              have p283 : 0 ≤ (0 : Int) := (by omega)
              have q283 : 0 < (x13_1.length : Int) := of_decide_eq_true (by first | (with_reducible assumption) | assumption)
              obtain ⟨ad283, e283, hx283_0⟩ := Kd.at_string (Kd.R_reads' HO_13.out).2.2 0 p283 q283
              cases e283
              have qi283 : (0 < x13_1.length) = True := eq_true (by omega)
              (try rw [show ((0 : Int)).toNat = 0 from rfl] at hx283_0)
              (try rw [Addr.add_zero'] at hx283_0)
              replace p283 := eq_true p283
              replace q283 := eq_true q283
              have p11 : 0 ≤ (0 : Int) := (by omega)
              have q11 : (0 : Int) < ((x13_1.length : Int) : Int) := of_decide_eq_true (by first | (with_reducible assumption) | assumption)
              have qi11 : (0 < x13_1.length) = True := eq_true (by omega)
              obtain ⟨go11, co11, eo11, gb11, gl11, cl11, HG11⟩ := Kd.R_form HO_13.out (by omega)
              (first | cases eo11 | (injection eo11 with ea_ en_ ec_; (first | subst ea_ | (injection ea_ with ea_; subst ea_)); subst ec_; clear en_))
              have GB11 := Aside0.mk gb11
              have GG11 := Aside0.mk HG11
              clear gb11 gl11 HG11
              (first | simp only [add_plain] at hx283_0 | skip)
              obtain ⟨hx11_0, hf11_0⟩ := Kd.R_celln (⟨#[]⟩ : ByteArray) HO_13.out (0 : Int) p11 q11
              (try rw [show ((0 : Int)).toNat = 0 from rfl] at hx11_0)
              (try simp only [Nat.reduceMul, Nat.zero_mul, Nat.zero_add, Nat.reduceAdd] at hx11_0)
              (try rw [show ((0 : Int)).toNat = 0 from rfl] at hf11_0)
              (try simp only [Nat.reduceMul, Nat.zero_mul, Nat.zero_add, Nat.reduceAdd] at hf11_0)
              replace p11 := eq_true p11
              replace q11 := eq_true q11
              have HP13 := Kd.R_putg HO_13.out (0 : Int) ((rdOf ByteArray.empty x13_1 0) ++ (⟨#[120]⟩ : ByteArray))
              go_wp2_with (first | ((with_reducible refine gate_store (t := 9) (p := 21) rfl ?_); refine store_event (t := 9) (p := 21) (v := ?vo_w14) (w1 := (wr.setCell ⟨go11, (0 : Int).toNat, none⟩ (.string ((rdOf ByteArray.empty x13_1 0) ++ (⟨#[120]⟩ : ByteArray))))) ?hg ?ho ?hn ?hr ?_; (case ho => rfl); (case hg => rfl); (case hn => rfl); (case hr => first | (go_simp; done) | (go_simp; rfl)); intro w14 hw; have hg : wr.grownBy w14 (some go11) := (by rw [hw]; exact HP13.2); have hp_ : Kd.R Kd.string 9 w14 w.heap.size (fun _ => True) (.slice (some ⟨go11, 0, none⟩) x13_1.length co12) y284 := (by rw [hw, Ny284.out]; exact HP13.1); clear HP13; have n0_ := Aside0.mk (hp_); have n1_ := Aside0.mk ((by rw [hw]; exact below_set (HB.out) GB11.out : Below w.heap.size w w14)); clear HO_13; clear HB; have HO_13 := n0_; have HB := n1_; clear n0_ n1_; clear hg hw hp_))
              go_roundg k1
              case measure => have := HK1.out; omega
              case rel => exact ⟨(y284), (wrap64 (x15_1 + 1)), (by first | rfl | (simp; done) | (simp [*]; done)), H', ⟨by have := HK1.out; omega⟩, ⟨by (with_reducible repeat (first | apply Kd.R_alloc | apply Kd.R_drewN | apply Kd.R_drew)); exact HO_13.out⟩, ⟨by repeat (first | (with_reducible first | exact HB.out | apply below_alloc | apply pw_below_drewN | apply below_drew1) | exact HB.out)⟩⟩
            · rw [if_neg c10] at H
              exact absurd H (by simp)
          · rw [if_neg c9] at H
            exact absurd H (by simp)
        · rw [if_neg c8] at H
          have c8b0 : decide (x15_1 < (Go.bits .and .i64 a1 511)) = false := decide_eq_false c8
          clear c8
          by_cases c15 : 0 < (x13_1.length : Int)
          · rw [if_pos c15] at H
            have c15b0 : decide (0 < (x13_1.length : Int)) = true := decide_eq_true c15
            have c15b1 : decide (0 < x13_1.length) = true := decide_eq_true (by omega)
            clear c15
            by_cases c16 : (rdOf ByteArray.empty x13_1 0).size + 9 ≤ 9223372036854775807
            · rw [if_pos c16] at H
              have c16b0 := eq_true c16
              have c16b1 : decide ((rdOf ByteArray.empty x13_1 0).size + 9 ≤ 9223372036854775807) = true := decide_eq_true c16
              try have c16b2 : (9223372036854775807 < (rdOf ByteArray.empty x13_1 0).size + 9) = False := eq_false (Nat.not_lt.2 c16)
              obtain ⟨y286, hy286⟩ : ∃ y_ : List ByteArray, y_ = (x13_1.set (0 : Int).toNat ((rdOf ByteArray.empty x13_1 0) ++ (⟨#[32, 72, 84, 84, 80, 47, 49, 46, 49]⟩ : ByteArray))) := ⟨_, rfl⟩
              replace H : (crossroadlaw02_HeadMany.l1 k1 (Go.bits .and .i64 a0 31) y286 (Go.bits .and .i64 a0 31) 0) = some r := by first | (rw [hy286]; with_reducible exact H) | (have H2_ := (Option.bind_some _ _).symm.trans H; rw [hy286]; with_reducible exact H2_) | (have H2_ := (Option.bind_some _ _).symm.trans H; with_reducible exact H2_) | with_reducible exact H | (rw [hy286]; exact H) | exact H
              have Ny286 := Aside0.mk hy286
              clear hy286
              have H' := Aside0.mk H
              clear H
              obtain ⟨Ao18, co18, eo18⟩ := Kd.R_slice HO_13.out
              subst eo18
              have p285 : 0 ≤ (0 : Int) := (by omega)
              have q285 : 0 < (x13_1.length : Int) := of_decide_eq_true (by first | (with_reducible assumption) | assumption)
              obtain ⟨ad285, e285, hx285_0⟩ := Kd.at_string (Kd.R_reads' HO_13.out).2.2 0 p285 q285
              cases e285
              have qi285 : (0 < x13_1.length) = True := eq_true (by omega)
              (try rw [show ((0 : Int)).toNat = 0 from rfl] at hx285_0)
              (try rw [Addr.add_zero'] at hx285_0)
              replace p285 := eq_true p285
              replace q285 := eq_true q285
              have p17 : 0 ≤ (0 : Int) := (by omega)
              have q17 : (0 : Int) < ((x13_1.length : Int) : Int) := of_decide_eq_true (by first | (with_reducible assumption) | assumption)
              have qi17 : (0 < x13_1.length) = True := eq_true (by omega)
              obtain ⟨go17, co17, eo17, gb17, gl17, cl17, HG17⟩ := Kd.R_form HO_13.out (by omega)
              (first | cases eo17 | (injection eo17 with ea_ en_ ec_; (first | subst ea_ | (injection ea_ with ea_; subst ea_)); subst ec_; clear en_))
              have GB17 := Aside0.mk gb17
              have GG17 := Aside0.mk HG17
              clear gb17 gl17 HG17
              (first | simp only [add_plain] at hx285_0 | skip)
              obtain ⟨hx17_0, hf17_0⟩ := Kd.R_celln (⟨#[]⟩ : ByteArray) HO_13.out (0 : Int) p17 q17
              (try rw [show ((0 : Int)).toNat = 0 from rfl] at hx17_0)
              (try simp only [Nat.reduceMul, Nat.zero_mul, Nat.zero_add, Nat.reduceAdd] at hx17_0)
              (try rw [show ((0 : Int)).toNat = 0 from rfl] at hf17_0)
              (try simp only [Nat.reduceMul, Nat.zero_mul, Nat.zero_add, Nat.reduceAdd] at hf17_0)
              replace p17 := eq_true p17
              replace q17 := eq_true q17
              have HP19 := Kd.R_putg HO_13.out (0 : Int) ((rdOf ByteArray.empty x13_1 0) ++ (⟨#[32, 72, 84, 84, 80, 47, 49, 46, 49]⟩ : ByteArray))
              go_wp2_with (first | ((with_reducible refine gate_store (t := 9) (p := 27) rfl ?_); refine store_event (t := 9) (p := 27) (v := ?vo_w20) (w1 := (wr.setCell ⟨go17, (0 : Int).toNat, none⟩ (.string ((rdOf ByteArray.empty x13_1 0) ++ (⟨#[32, 72, 84, 84, 80, 47, 49, 46, 49]⟩ : ByteArray))))) ?hg ?ho ?hn ?hr ?_; (case ho => rfl); (case hg => rfl); (case hn => rfl); (case hr => first | (go_simp; done) | (go_simp; rfl)); intro w20 hw; have hg : wr.grownBy w20 (some go17) := (by rw [hw]; exact HP19.2); have hp_ : Kd.R Kd.string 9 w20 w.heap.size (fun _ => True) (.slice (some ⟨go17, 0, none⟩) x13_1.length co18) y286 := (by rw [hw, Ny286.out]; exact HP19.1); clear HP19; have n0_ := Aside0.mk (hp_); have n1_ := Aside0.mk ((by rw [hw]; exact below_set (HB.out) GB17.out : Below w.heap.size w w20)); clear HO_13; clear HB; have HO_13 := n0_; have HB := n1_; clear n0_ n1_; clear hg hw hp_))
              go_loopg [5, 29] k1 (fun kq v5 v29 w' => ∃ (x5_2 : List ByteArray) (x29_2 : Int), v29 = .int .i64 x29_2 ∧ Aside0 (crossroadlaw02_HeadMany.l1 kq (Go.bits .and .i64 a0 31) x5_2 (Go.bits .and .i64 a0 31) x29_2 = some r) ∧ Aside0 (kq ≤ k1) ∧ Aside0 (Kd.R Kd.string 9 w' w.heap.size (fun _ => True) v5 x5_2) ∧ Aside0 (Below w.heap.size w w'))
              case atStart => exact ⟨(y286), (0), (by first | rfl | (simp; done) | (simp [*]; done)), H', ⟨Nat.le_refl _⟩, ⟨by (with_reducible repeat (first | apply Kd.R_alloc | apply Kd.R_drewN | apply Kd.R_drew)); exact HO_13.out⟩, ⟨by repeat (first | (with_reducible first | exact HB.out | apply below_alloc | apply pw_below_drewN | apply below_drew1) | exact HB.out)⟩⟩
              case round =>
                clear H'
                try clear c1
                try clear p1
                try clear q1
                try clear hx1
                try clear qi1
                try clear p2
                try clear q2
                try clear hx2
                try clear qi2
                try clear c4
                try clear p6
                try clear c8
                try clear c8b0
                try clear c9
                try clear c9b0
                try clear c9b1
                try clear c10
                try clear c10b0
                try clear c10b1
                try clear c10b2
                try clear p11
                try clear q11
                try clear hx11
                try clear qi11
                try clear hf11
                try clear c15
                try clear c15b0
                try clear c15b1
                try clear c16
                try clear c16b0
                try clear c16b1
                try clear c16b2
                try clear p17
                try clear q17
                try clear hx17
                try clear qi17
                try clear hf17
                try clear hx11_0
                try clear hx17_0
                try clear hx283_0
                try clear hx285_0
                try clear p11
                try clear p17
                try clear p2
                try clear p283
                try clear p285
                try clear q11
                try clear q17
                try clear q283
                try clear q285
                obtain ⟨x5_2, x29_2, rfl, HA, HK2, HO_5, HB⟩ := hrel
                cases gk with
                | zero => exact absurd HA.out (by simp [crossroadlaw02_HeadMany.l1])
                | succ k2 =>
                  have H := HA.out
                  clear HA
                  simp only [crossroadlaw02_HeadMany.l1] at H
                  by_cases c21 : x29_2 < (Go.bits .and .i64 a0 31)
                  · rw [if_pos c21] at H
                    have c21b0 : decide (x29_2 < (Go.bits .and .i64 a0 31)) = true := decide_eq_true c21
                    clear c21
                    by_cases c22 : x5_2.length < 8796093022208
                    · rw [if_pos c22] at H
                      have LMc22 := Aside0.mk c22
                      clear c22
                      obtain ⟨y287, hy287⟩ : ∃ y_ : List ByteArray, y_ = (x5_2 ++ [(⟨#[102, 58, 32, 118]⟩ : ByteArray)]) := ⟨_, rfl⟩
                      replace H : (crossroadlaw02_HeadMany.l1 k2 (Go.bits .and .i64 a0 31) y287 (Go.bits .and .i64 a0 31) (wrap64 (x29_2 + 1))) = some r := by first | (rw [hy287]; with_reducible exact H) | (have H2_ := (Option.bind_some _ _).symm.trans H; rw [hy287]; with_reducible exact H2_) | (have H2_ := (Option.bind_some _ _).symm.trans H; with_reducible exact H2_) | with_reducible exact H | (rw [hy287]; exact H) | exact H
                      have Ny287 := Aside0.mk hy287
                      clear hy287
                      have H' := Aside0.mk H
                      clear H
                      go_wp2_with (first | ((with_reducible refine gate_builtin (b := .append) (xs := #[.tmp 31, .tmp 32]) rfl ?_); (try (refine gate_guard (by rfl) ?_; dsimp only)); at_builtin; refine Kd.R_append Kd.string (w0 := w) w.heap.size rfl (.tmp 31) (.tmp 32) 24 9 (.string ⟨#[]⟩) 16 rfl Try.underlying24 info9 rfl (by decide) (by omega) u5 x5_2 (⟨#[102, 58, 32, 118]⟩ : ByteArray) [.string (⟨#[102, 58, 32, 118]⟩ : ByteArray)] (fun _ => True) (fun _ => False) rfl rfl ?aP (fun _ hk => hk.elim) ?aF ?aO ?aB ?aS ?aL ?_; (case aP => exact rfl); (case aB => exact (by repeat (first | (with_reducible first | exact HB.out | apply below_alloc | apply pw_below_drewN | apply below_drew1) | exact HB.out))); (case aF => exact (fun _ _ => trivial)); (case aO => exact (by (with_reducible repeat (first | apply Kd.R_alloc | apply Kd.R_drewN | apply Kd.R_drew)); exact HO_5.out)); (case aS => exact (below_size (by repeat (first | (with_reducible first | exact HB.out | apply below_alloc | apply pw_below_drewN | apply below_drew1) | exact HB.out)))); (case aL => have := LMc22.out; omega); intro v288 w23 ho hb hg hat; rw [← Ny287.out] at ho; have n0_ := Aside0.mk (hb); have n1_ := Aside0.mk (ho); clear HB; clear HO_5; have HB := n0_; have HO289 := n1_; clear n0_ n1_; clear ho hb hg hat))
                      go_roundg k2
                      case measure => have := HK1.out; have := HK2.out; omega
                      case rel => exact ⟨(y287), (wrap64 (x29_2 + 1)), (by first | rfl | (simp; done) | (simp [*]; done)), H', ⟨by have := HK1.out; have := HK2.out; omega⟩, ⟨by (with_reducible repeat (first | apply Kd.R_alloc | apply Kd.R_drewN | apply Kd.R_drew)); exact HO289.out⟩, ⟨by repeat (first | (with_reducible first | exact HB.out | apply below_alloc | apply pw_below_drewN | apply below_drew1) | exact HB.out)⟩⟩
                    · rw [if_neg c22] at H
                      exact absurd H (by simp)
                  · rw [if_neg c21] at H
                    have c21b0 : decide (x29_2 < (Go.bits .and .i64 a0 31)) = false := decide_eq_false c21
                    clear c21
                    replace H := Option.bind_eq_some_iff.mp H
                    obtain ⟨⟨t290, t291, t292, t295, t296, t297, t298⟩, A240, H⟩ := H
                    replace H : (if (wrap64 ((Go.bits .and .i64 a0 31) + 1)) > 16 then (crossroadlaw02_HeadMany.j2 k2 (Go.bits .and .i64 a0 31) true t290 t291 t292 t295 t296 t297 t298) else (if 0 < (x5_2.length : Int) then (crossroadlaw02_HeadMany.j2 k2 (Go.bits .and .i64 a0 31) (decide (((rdOf ByteArray.empty x5_2 0).size : Int) > 200)) t290 t291 t292 t295 t296 t297 t298) else (none))) = some r := H
                    have A24 := Aside0.mk A240
                    clear A240
                    have HC25 := Aside0.mk H
                    clear H
                    obtain ⟨Ao26, co26, eo26⟩ := Kd.R_slice HO_5.out
                    subst eo26
                    go_upto_region 15 with (first | ((with_reducible refine gate_callee (f := 11) rfl ?_); refine goesL_ (some 36) rfl rfl Try.func11 (by kernel_rfl) rfl #[.slice Ao26 x5_2.length co26] rfl (by (try simp only [List.map_toArray, List.map_cons, List.map_nil]); first | done | rfl | (simp only [List.length_drop, List.length_take]; rfl)) ?_; (with_reducible refine (head_Parse.calls k2 _ _ x5_2 t290 t291 t292 t295 t296 t297 t298 _ ?side1 ?side2 A24.out).mono ?_); (case side1 => repeat (first | exact (Kd.R_reads' HO_5.out).2.2 | (with_reducible refine Kd.C_alloc ?_ _) | (with_reducible refine Kd.C_drewN ?_ _) | (with_reducible refine Kd.C_drew ?_))); (case side2 => exact (Kd.R_reads' HO_5.out).2.1); rintro e w27 ⟨v293, rfl, ho0, hb⟩; refine ⟨_, rfl, ?_⟩; have n0_ := Aside0.mk (Kd.R_below (by (with_reducible repeat (first | apply Kd.R_alloc | apply Kd.R_drewN | apply Kd.R_drew)); exact HO_5.out) hb); have n1_ := Aside0.mk (Kd.R_lower ho0 (below_size (by repeat (first | (with_reducible first | exact HB.out | apply below_alloc | apply pw_below_drewN | apply below_drew1) | exact HB.out)))); have n2_ := Aside0.mk (below_step (by repeat (first | (with_reducible first | exact HB.out | apply below_alloc | apply pw_below_drewN | apply below_drew1) | exact HB.out)) hb); clear HO_5; clear HB; have HO_5 := n0_; have HO294 := n1_; have HB := n2_; clear n0_ n1_ n2_; (try clear hb); (try clear hb2); (try clear hk); (try clear hi); (try clear ho0)) | ((with_reducible refine gate_dst (N := 6) rfl ?_); (try (refine gate_guard (by rfl) ?_; dsimp only)); refine box_event ?hg (N := 6) ?hd (cs := #[.string (⟨#[]⟩ : ByteArray), .string (⟨#[]⟩ : ByteArray), .slice none 0 0, .string (⟨#[]⟩ : ByteArray), .bool false, .int .i64 0, .int .i64 0]) (t := 32) ?hr ?_; (case hd => rfl); (case hg => rfl); (case hr => first | (go_simp; done) | (go_simp; rfl)); intro gb299 hg w28 hbox hb; have n0_ := Aside0.mk (Kd.R_below (by (with_reducible repeat (first | apply Kd.R_alloc | apply Kd.R_drewN | apply Kd.R_drew)); exact HO_5.out) hb); have n1_ := Aside0.mk (Kd.R_below (by (with_reducible repeat (first | apply Kd.R_alloc | apply Kd.R_drewN | apply Kd.R_drew)); exact HO294.out) hb); have n2_ := Aside0.mk (below_step (by repeat (first | (with_reducible first | exact HB.out | apply below_alloc | apply pw_below_drewN | apply below_drew1) | exact HB.out)) hb); have n3_ := Aside0.mk (hbox); have n4_ := Aside0.mk ((by rw [hg]; exact (below_size (by repeat (first | (with_reducible first | exact HB.out | apply below_alloc | apply pw_below_drewN | apply below_drew1) | exact HB.out))) : w.heap.size ≤ gb299)); have n5_ := Aside0.mk ((by rw [hg]; exact (below_size (by repeat (first | (with_reducible first | exact HB.out | apply below_alloc | apply pw_below_drewN | apply below_drew1) | exact HB.out))) : w.heap.size ≤ gb299)); clear HO_5; clear HO294; clear HB; have HO_5 := n0_; have HO294 := n1_; have HB := n2_; have BK299 := n3_; have GW299 := n4_; have GE299 := n5_; clear n0_ n1_ n2_ n3_ n4_ n5_; clear hb hbox hg; have hcz29_0 : w28.cell? ⟨gb299, 0, none⟩ = some (.string (⟨#[]⟩ : ByteArray)) := (blk_cell BK299.out 0).trans rfl; have hcz29_1 : w28.cell? ⟨gb299, 1, none⟩ = some (.string (⟨#[]⟩ : ByteArray)) := (blk_cell BK299.out 1).trans rfl; have hcz29_2 : w28.cell? ⟨gb299, 2, none⟩ = some (.slice none 0 0) := (blk_cell BK299.out 2).trans rfl; have hcz29_3 : w28.cell? ⟨gb299, 3, none⟩ = some (.string (⟨#[]⟩ : ByteArray)) := (blk_cell BK299.out 3).trans rfl; have hcz29_4 : w28.cell? ⟨gb299, 4, none⟩ = some (.bool false) := (blk_cell BK299.out 4).trans rfl; have hcz29_5 : w28.cell? ⟨gb299, 5, none⟩ = some (.int .i64 0) := (blk_cell BK299.out 5).trans rfl; have hcz29_6 : w28.cell? ⟨gb299, 6, none⟩ = some (.int .i64 0) := (blk_cell BK299.out 6).trans rfl; have hfz29_0 := blk_frozen BK299.out 0; have hfz29_1 := blk_frozen BK299.out 1; have hfz29_2 := blk_frozen BK299.out 2; have hfz29_3 := blk_frozen BK299.out 3; have hfz29_4 := blk_frozen BK299.out 4; have hfz29_5 := blk_frozen BK299.out 5; have hfz29_6 := blk_frozen BK299.out 6; obtain ⟨Ao30, co30, eo30⟩ := Kd.R_slice HO294.out; subst eo30))
                    (try simp only [Act.put, List.setIfInBounds_toArray, List.set_cons_zero, List.set_cons_succ])
                    go_cut [46] (fun v46 wc => ∃ (kq : Nat) (x46_24 : Bool), v46 = .bool x46_24 ∧ Aside0 (crossroadlaw02_HeadMany.j2 kq (Go.bits .and .i64 a0 31) x46_24 t290 t291 t292 t295 t296 t297 t298 = some r) ∧ Aside0 (kq ≤ k2) ∧ Aside0 (Kd.R k27 27 wc w.heap.size (fun _ => True) (.slice Ao30 t292.length co30) t292) ∧ Aside0 (wc.heap[gb299]? = some (.cells #[.string t290, .string t291, (.slice Ao30 t292.length co30), .string t295, .bool t296, .int .i64 t297, .int .i64 t298] 32 (0, 0))) ∧ Aside0 (Below w.heap.size w wc))
                    case first =>
                      have H := HC25.out
                      clear HC25
                      by_cases c31 : (wrap64 ((Go.bits .and .i64 a0 31) + 1)) > 16
                      · rw [if_pos c31] at H
                        have c31b0 : decide (16 < (wrap64 ((Go.bits .and .i64 a0 31) + 1))) = true := decide_eq_true c31
                        clear c31
                        (first | rw [c31b0] | (simp only [i64_w, i32_w]; rw [c31b0]) | skip)
                        have H' := Aside0.mk H
                        clear H
                        go_wp2
                        go_meet
                        case rel => exact ⟨_, (true), (by first | rfl | (simp; done) | (simp [*]; done)), H', ⟨by have := HK1.out; have := HK2.out; first | omega | exact Nat.le_refl _⟩, ⟨by (with_reducible repeat (first | apply Kd.R_alloc | apply Kd.R_drewN | apply Kd.R_drew)); exact Kd.R_mono (Kd.R_far (p := ⟨gb299, 6, none⟩) (Kd.R_far (p := ⟨gb299, 5, none⟩) (Kd.R_far (p := ⟨gb299, 4, none⟩) (Kd.R_far (p := ⟨gb299, 3, none⟩) (Kd.R_far (p := ⟨gb299, 2, none⟩) (Kd.R_far (p := ⟨gb299, 1, none⟩) (Kd.R_far (p := ⟨gb299, 0, none⟩) (Kd.R_types HO294.out BK299.out (by decide)) (fun _ hk => hk.2) (.string t290)) (fun _ hk => hk.2) (.string t291)) (fun _ hk => hk.2) (.slice Ao30 t292.length co30)) (fun _ hk => hk.2) (.string t295)) (fun _ hk => hk.2) (.bool t296)) (fun _ hk => hk.2) (.int .i64 t297)) (fun _ hk => hk.2) (.int .i64 t298)) (fun _ hk => trivial)⟩, ⟨by (with_reducible repeat (first | refine blk_drewN ?_ _ | refine blk_drew ?_ | refine blk_alloc ?_ _)); refine blk_put (cs := #[.string t290, .string t291, .slice Ao30 t292.length co30, .string t295, .bool t296, .int .i64 t297, .int .i64 0]) ?_ 6 _ rfl; (with_reducible repeat (first | refine blk_drewN ?_ _ | refine blk_drew ?_ | refine blk_alloc ?_ _)); refine blk_put (cs := #[.string t290, .string t291, .slice Ao30 t292.length co30, .string t295, .bool t296, .int .i64 0, .int .i64 0]) ?_ 5 _ rfl; (with_reducible repeat (first | refine blk_drewN ?_ _ | refine blk_drew ?_ | refine blk_alloc ?_ _)); refine blk_put (cs := #[.string t290, .string t291, .slice Ao30 t292.length co30, .string t295, .bool false, .int .i64 0, .int .i64 0]) ?_ 4 _ rfl; (with_reducible repeat (first | refine blk_drewN ?_ _ | refine blk_drew ?_ | refine blk_alloc ?_ _)); refine blk_put (cs := #[.string t290, .string t291, .slice Ao30 t292.length co30, .string (⟨#[]⟩ : ByteArray), .bool false, .int .i64 0, .int .i64 0]) ?_ 3 _ rfl; (with_reducible repeat (first | refine blk_drewN ?_ _ | refine blk_drew ?_ | refine blk_alloc ?_ _)); refine blk_put (cs := #[.string t290, .string t291, .slice none 0 0, .string (⟨#[]⟩ : ByteArray), .bool false, .int .i64 0, .int .i64 0]) ?_ 2 _ rfl; (with_reducible repeat (first | refine blk_drewN ?_ _ | refine blk_drew ?_ | refine blk_alloc ?_ _)); refine blk_put (cs := #[.string t290, .string (⟨#[]⟩ : ByteArray), .slice none 0 0, .string (⟨#[]⟩ : ByteArray), .bool false, .int .i64 0, .int .i64 0]) ?_ 1 _ rfl; (with_reducible repeat (first | refine blk_drewN ?_ _ | refine blk_drew ?_ | refine blk_alloc ?_ _)); refine blk_put (cs := #[.string (⟨#[]⟩ : ByteArray), .string (⟨#[]⟩ : ByteArray), .slice none 0 0, .string (⟨#[]⟩ : ByteArray), .bool false, .int .i64 0, .int .i64 0]) ?_ 0 _ rfl; (with_reducible repeat (first | refine blk_drewN ?_ _ | refine blk_drew ?_ | refine blk_alloc ?_ _)); exact BK299.out⟩, ⟨by repeat (first | (with_reducible first | exact HB.out | apply below_alloc | apply pw_below_drewN | apply below_drew1 | refine below_set ?_ GE299.out) | exact HB.out)⟩⟩
                      · rw [if_neg c31] at H
                        have c31b0 : decide (16 < (wrap64 ((Go.bits .and .i64 a0 31) + 1))) = false := decide_eq_false c31
                        clear c31
                        (first | rw [c31b0] | (simp only [i64_w, i32_w]; rw [c31b0]) | skip)
                        by_cases c32 : 0 < (x5_2.length : Int)
                        · rw [if_pos c32] at H
                          have c32b0 : decide (0 < (x5_2.length : Int)) = true := decide_eq_true c32
                          have c32b1 : decide (0 < x5_2.length) = true := decide_eq_true (by omega)
                          clear c32
                          have H' := Aside0.mk H
                          clear H
                          have p300 : 0 ≤ (0 : Int) := (by omega)
                          have q300 : 0 < (x5_2.length : Int) := of_decide_eq_true (by first | (with_reducible assumption) | assumption)
                          obtain ⟨ad300, e300, hx300_0⟩ := Kd.at_string (Kd.R_reads' HO_5.out).2.2 0 p300 q300
                          cases e300
                          have qi300 : (0 < x5_2.length) = True := eq_true (by omega)
                          (try rw [show ((0 : Int)).toNat = 0 from rfl] at hx300_0)
                          (try rw [Addr.add_zero'] at hx300_0)
                          have hn300_0 : ad300.block ≠ gb299 := Kd.own_blk (Kd.R_ne HO_5.out BK299.out (by decide))
                          have hn300_1 : ad300.block ≠ gb299 := Kd.own_blk (Kd.R_ne HO_5.out BK299.out (by decide))
                          have hn300_2 : ad300.block ≠ gb299 := Kd.own_blk (Kd.R_ne HO_5.out BK299.out (by decide))
                          have hn300_3 : ad300.block ≠ gb299 := Kd.own_blk (Kd.R_ne HO_5.out BK299.out (by decide))
                          have hn300_4 : ad300.block ≠ gb299 := Kd.own_blk (Kd.R_ne HO_5.out BK299.out (by decide))
                          have hn300_5 : ad300.block ≠ gb299 := Kd.own_blk (Kd.R_ne HO_5.out BK299.out (by decide))
                          have hn300_6 : ad300.block ≠ gb299 := Kd.own_blk (Kd.R_ne HO_5.out BK299.out (by decide))
                          replace hx300_0 := (cell_far (p := ⟨gb299, 0, none⟩) (by first | (rw [add_block]; exact hn300_0) | (show (Addr.add _ _).block ≠ _; rw [add_block]; exact hn300_0) | exact hn300_0) (.string t290)).trans hx300_0
                          replace hx300_0 := (cell_far (p := ⟨gb299, 1, none⟩) (by first | (rw [add_block]; exact hn300_1) | (show (Addr.add _ _).block ≠ _; rw [add_block]; exact hn300_1) | exact hn300_1) (.string t291)).trans hx300_0
                          replace hx300_0 := (cell_far (p := ⟨gb299, 2, none⟩) (by first | (rw [add_block]; exact hn300_2) | (show (Addr.add _ _).block ≠ _; rw [add_block]; exact hn300_2) | exact hn300_2) (.slice Ao30 t292.length co30)).trans hx300_0
                          replace hx300_0 := (cell_far (p := ⟨gb299, 3, none⟩) (by first | (rw [add_block]; exact hn300_3) | (show (Addr.add _ _).block ≠ _; rw [add_block]; exact hn300_3) | exact hn300_3) (.string t295)).trans hx300_0
                          replace hx300_0 := (cell_far (p := ⟨gb299, 4, none⟩) (by first | (rw [add_block]; exact hn300_4) | (show (Addr.add _ _).block ≠ _; rw [add_block]; exact hn300_4) | exact hn300_4) (.bool t296)).trans hx300_0
                          replace hx300_0 := (cell_far (p := ⟨gb299, 5, none⟩) (by first | (rw [add_block]; exact hn300_5) | (show (Addr.add _ _).block ≠ _; rw [add_block]; exact hn300_5) | exact hn300_5) (.int .i64 t297)).trans hx300_0
                          replace hx300_0 := (cell_far (p := ⟨gb299, 6, none⟩) (by first | (rw [add_block]; exact hn300_6) | (show (Addr.add _ _).block ≠ _; rw [add_block]; exact hn300_6) | exact hn300_6) (.int .i64 t298)).trans hx300_0
                          clear hn300_0
                          clear hn300_1
                          clear hn300_2
                          clear hn300_3
                          clear hn300_4
                          clear hn300_5
                          clear hn300_6
                          replace p300 := eq_true p300
                          replace q300 := eq_true q300
                          go_wp2
                          go_meet
                          case rel => exact ⟨_, (decide (((rdOf ByteArray.empty x5_2 0).size : Int) > 200)), (by first | rfl | (simp; done) | (simp [*]; done)), H', ⟨by have := HK1.out; have := HK2.out; first | omega | exact Nat.le_refl _⟩, ⟨by (with_reducible repeat (first | apply Kd.R_alloc | apply Kd.R_drewN | apply Kd.R_drew)); exact Kd.R_mono (Kd.R_far (p := ⟨gb299, 6, none⟩) (Kd.R_far (p := ⟨gb299, 5, none⟩) (Kd.R_far (p := ⟨gb299, 4, none⟩) (Kd.R_far (p := ⟨gb299, 3, none⟩) (Kd.R_far (p := ⟨gb299, 2, none⟩) (Kd.R_far (p := ⟨gb299, 1, none⟩) (Kd.R_far (p := ⟨gb299, 0, none⟩) (Kd.R_types HO294.out BK299.out (by decide)) (fun _ hk => hk.2) (.string t290)) (fun _ hk => hk.2) (.string t291)) (fun _ hk => hk.2) (.slice Ao30 t292.length co30)) (fun _ hk => hk.2) (.string t295)) (fun _ hk => hk.2) (.bool t296)) (fun _ hk => hk.2) (.int .i64 t297)) (fun _ hk => hk.2) (.int .i64 t298)) (fun _ hk => trivial)⟩, ⟨by (with_reducible repeat (first | refine blk_drewN ?_ _ | refine blk_drew ?_ | refine blk_alloc ?_ _)); refine blk_put (cs := #[.string t290, .string t291, .slice Ao30 t292.length co30, .string t295, .bool t296, .int .i64 t297, .int .i64 0]) ?_ 6 _ rfl; (with_reducible repeat (first | refine blk_drewN ?_ _ | refine blk_drew ?_ | refine blk_alloc ?_ _)); refine blk_put (cs := #[.string t290, .string t291, .slice Ao30 t292.length co30, .string t295, .bool t296, .int .i64 0, .int .i64 0]) ?_ 5 _ rfl; (with_reducible repeat (first | refine blk_drewN ?_ _ | refine blk_drew ?_ | refine blk_alloc ?_ _)); refine blk_put (cs := #[.string t290, .string t291, .slice Ao30 t292.length co30, .string t295, .bool false, .int .i64 0, .int .i64 0]) ?_ 4 _ rfl; (with_reducible repeat (first | refine blk_drewN ?_ _ | refine blk_drew ?_ | refine blk_alloc ?_ _)); refine blk_put (cs := #[.string t290, .string t291, .slice Ao30 t292.length co30, .string (⟨#[]⟩ : ByteArray), .bool false, .int .i64 0, .int .i64 0]) ?_ 3 _ rfl; (with_reducible repeat (first | refine blk_drewN ?_ _ | refine blk_drew ?_ | refine blk_alloc ?_ _)); refine blk_put (cs := #[.string t290, .string t291, .slice none 0 0, .string (⟨#[]⟩ : ByteArray), .bool false, .int .i64 0, .int .i64 0]) ?_ 2 _ rfl; (with_reducible repeat (first | refine blk_drewN ?_ _ | refine blk_drew ?_ | refine blk_alloc ?_ _)); refine blk_put (cs := #[.string t290, .string (⟨#[]⟩ : ByteArray), .slice none 0 0, .string (⟨#[]⟩ : ByteArray), .bool false, .int .i64 0, .int .i64 0]) ?_ 1 _ rfl; (with_reducible repeat (first | refine blk_drewN ?_ _ | refine blk_drew ?_ | refine blk_alloc ?_ _)); refine blk_put (cs := #[.string (⟨#[]⟩ : ByteArray), .string (⟨#[]⟩ : ByteArray), .slice none 0 0, .string (⟨#[]⟩ : ByteArray), .bool false, .int .i64 0, .int .i64 0]) ?_ 0 _ rfl; (with_reducible repeat (first | refine blk_drewN ?_ _ | refine blk_drew ?_ | refine blk_alloc ?_ _)); exact BK299.out⟩, ⟨by repeat (first | (with_reducible first | exact HB.out | apply below_alloc | apply pw_below_drewN | apply below_drew1 | refine below_set ?_ GE299.out) | exact HB.out)⟩⟩
                        · rw [if_neg c32] at H
                          exact absurd H (by simp)
                    case rest =>
                      clear HC25
                      try clear c1
                      try clear p1
                      try clear q1
                      try clear hx1
                      try clear qi1
                      try clear c2
                      try clear p2
                      try clear q2
                      try clear hx2
                      try clear qi2
                      try clear c3
                      try clear p3
                      try clear q3
                      try clear hx3
                      try clear qi3
                      try clear c4
                      try clear p6
                      try clear c8
                      try clear c8b0
                      try clear c9
                      try clear c9b0
                      try clear c9b1
                      try clear c10
                      try clear c10b0
                      try clear c10b1
                      try clear c10b2
                      try clear c11
                      try clear p11
                      try clear q11
                      try clear hx11
                      try clear qi11
                      try clear hf11
                      try clear c15
                      try clear c15b0
                      try clear c15b1
                      try clear c16
                      try clear c16b0
                      try clear c16b1
                      try clear c16b2
                      try clear p17
                      try clear q17
                      try clear hx17
                      try clear qi17
                      try clear hf17
                      try clear c21
                      try clear c21b0
                      try clear c22
                      try clear p28
                      try clear q28
                      try clear hx28
                      try clear qi28
                      try clear p30
                      try clear q30
                      try clear hx30
                      try clear qi30
                      try clear c31
                      try clear c31b0
                      try clear c32
                      try clear c32b0
                      try clear c32b1
                      try clear hcz29_0
                      try clear hcz29_1
                      try clear hcz29_2
                      try clear hcz29_3
                      try clear hcz29_4
                      try clear hcz29_5
                      try clear hcz29_6
                      try clear hfz29_0
                      try clear hfz29_1
                      try clear hfz29_2
                      try clear hfz29_3
                      try clear hfz29_4
                      try clear hfz29_5
                      try clear hfz29_6
                      try clear hx11_0
                      try clear hx17_0
                      try clear hx283_0
                      try clear hx285_0
                      try clear hx300_0
                      try clear p1
                      try clear p11
                      try clear p17
                      try clear p2
                      try clear p283
                      try clear p285
                      try clear p300
                      try clear p6
                      try clear q1
                      try clear q11
                      try clear q17
                      try clear q2
                      try clear q283
                      try clear q285
                      try clear q300
                      obtain ⟨kq, x46_24, rfl, HA, HJ24, HO_300002, BK299, HB⟩ := hcut
                      cases kq with
                      | zero => exact absurd HA.out (by simp [crossroadlaw02_HeadMany.j2])
                      | succ kj24 =>
                        have H := HA.out
                        clear HA
                        simp only [crossroadlaw02_HeadMany.j2] at H
                        by_cases c33 : x46_24 = true
                        · subst c33
                          have H1 : (some (t298 == 431)) = some r := by rw [if_pos rfl] at H; exact H
                          clear H
                          have H := H1
                          clear H1
                          obtain rfl := Option.some.inj H
                          have hcz34_0 : wc.cell? ⟨gb299, 0, none⟩ = some (.string t290) := (blk_cell BK299.out 0).trans rfl
                          have hcz34_1 : wc.cell? ⟨gb299, 1, none⟩ = some (.string t291) := (blk_cell BK299.out 1).trans rfl
                          have hcz34_2 : wc.cell? ⟨gb299, 2, none⟩ = some (.slice Ao30 t292.length co30) := (blk_cell BK299.out 2).trans rfl
                          have hcz34_3 : wc.cell? ⟨gb299, 3, none⟩ = some (.string t295) := (blk_cell BK299.out 3).trans rfl
                          have hcz34_4 : wc.cell? ⟨gb299, 4, none⟩ = some (.bool t296) := (blk_cell BK299.out 4).trans rfl
                          have hcz34_5 : wc.cell? ⟨gb299, 5, none⟩ = some (.int .i64 t297) := (blk_cell BK299.out 5).trans rfl
                          have hcz34_6 : wc.cell? ⟨gb299, 6, none⟩ = some (.int .i64 t298) := (blk_cell BK299.out 6).trans rfl
                          have hfz34_0 := blk_frozen BK299.out 0
                          have hfz34_1 := blk_frozen BK299.out 1
                          have hfz34_2 := blk_frozen BK299.out 2
                          have hfz34_3 := blk_frozen BK299.out 3
                          have hfz34_4 := blk_frozen BK299.out 4
                          have hfz34_5 := blk_frozen BK299.out 5
                          have hfz34_6 := blk_frozen BK299.out 6
                          go_wp2
                          go_ret
                          exact ⟨by first | rfl | (simp [errW_none, errW_some] <;> rfl) | (simp [*, errW_none, errW_some] <;> rfl), by repeat (first | (with_reducible first | exact HB.out | apply below_alloc | apply pw_below_drewN | apply below_drew1 | refine below_set ?_ GE299.out) | exact HB.out)⟩
                        · replace c33 := Bool.eq_false_iff.mpr c33
                          subst c33
                          have H1 : (if t298 = 0 then (if (t292.length : Int) = (wrap64 ((Go.bits .and .i64 a0 31) + 1)) then ((head_Parse.f kj24 ([] : List ByteArray)).bind fun bt301 => (if (bt301.2.2.1.length : Int) = 0 then ((head_Parse.f kj24 ([] : List ByteArray)).bind fun bt310 => (some (bt310.2.2.2.2.2.2 == 400))) else (some false))) else (some false)) else (some false)) = some r := by rw [if_neg (show ¬ (false = true) by decide)] at H; exact H
                          clear H
                          have H := H1
                          clear H1
                          by_cases c35 : t298 = 0
                          · rw [if_pos c35] at H
                            have c35b0 : (t298 == 0) = true := beq_iff_eq.mpr c35
                            have c35b1 : (t298 != 0) = false := bne_eq_false_iff_eq.mpr c35
                            clear c35
                            by_cases c36 : (t292.length : Int) = (wrap64 ((Go.bits .and .i64 a0 31) + 1))
                            · rw [if_pos c36] at H
                              have c36b0 : ((t292.length : Int) == (wrap64 ((Go.bits .and .i64 a0 31) + 1))) = true := beq_iff_eq.mpr c36
                              have c36b1 : ((t292.length : Int) != (wrap64 ((Go.bits .and .i64 a0 31) + 1))) = false := bne_eq_false_iff_eq.mpr c36
                              clear c36
                              replace H := Option.bind_eq_some_iff.mp H
                              obtain ⟨⟨t301, t302, t303, t306, t307, t308, t309⟩, A370, H⟩ := H
                              replace H : (if (t303.length : Int) = 0 then ((head_Parse.f kj24 ([] : List ByteArray)).bind fun bt310 => (some (bt310.2.2.2.2.2.2 == 400))) else (some false)) = some r := H
                              have A37 := Aside0.mk A370
                              clear A370
                              by_cases c38 : (t303.length : Int) = 0
                              · rw [if_pos c38] at H
                                have c38b0 : ((t303.length : Int) == 0) = true := beq_iff_eq.mpr c38
                                have c38b1 : ((t303.length : Int) != 0) = false := bne_eq_false_iff_eq.mpr c38
                                clear c38
                                replace H := Option.bind_eq_some_iff.mp H
                                obtain ⟨⟨t310, t311, t312, t315, t316, t317, t318⟩, A390, H⟩ := H
                                replace H : (some (t318 == 400)) = some r := H
                                have A39 := Aside0.mk A390
                                clear A390
                                obtain rfl := Option.some.inj H
                                have hcz40_0 : wc.cell? ⟨gb299, 0, none⟩ = some (.string t290) := (blk_cell BK299.out 0).trans rfl
                                have hcz40_1 : wc.cell? ⟨gb299, 1, none⟩ = some (.string t291) := (blk_cell BK299.out 1).trans rfl
                                have hcz40_2 : wc.cell? ⟨gb299, 2, none⟩ = some (.slice Ao30 t292.length co30) := (blk_cell BK299.out 2).trans rfl
                                have hcz40_3 : wc.cell? ⟨gb299, 3, none⟩ = some (.string t295) := (blk_cell BK299.out 3).trans rfl
                                have hcz40_4 : wc.cell? ⟨gb299, 4, none⟩ = some (.bool t296) := (blk_cell BK299.out 4).trans rfl
                                have hcz40_5 : wc.cell? ⟨gb299, 5, none⟩ = some (.int .i64 t297) := (blk_cell BK299.out 5).trans rfl
                                have hcz40_6 : wc.cell? ⟨gb299, 6, none⟩ = some (.int .i64 t298) := (blk_cell BK299.out 6).trans rfl
                                have hfz40_0 := blk_frozen BK299.out 0
                                have hfz40_1 := blk_frozen BK299.out 1
                                have hfz40_2 := blk_frozen BK299.out 2
                                have hfz40_3 := blk_frozen BK299.out 3
                                have hfz40_4 := blk_frozen BK299.out 4
                                have hfz40_5 := blk_frozen BK299.out 5
                                have hfz40_6 := blk_frozen BK299.out 6
                                go_wp2_with (first | (go_at_call 11; (refine (head_Parse.calls kj24 _ _ ([] : List ByteArray) t301 t302 t303 t306 t307 t308 t309 _ ?side1 ?side2 A37.out).mono ?_); (case side1 => exact Kd.C_nil _ _); (case side2 => exact Nat.le_refl _); rintro e w41 ⟨v304, rfl, ho0, hb⟩; clear A37; have n0_ := Aside0.mk (Kd.R_elder' (by (with_reducible repeat (first | apply Kd.R_alloc | apply Kd.R_drewN | apply Kd.R_drew)); exact HO_300002.out) (Kd.R_base ho0) hb); have n1_ := Aside0.mk (Kd.R_lower (Kd.R_new' ho0 (Kd.R_lt (by (with_reducible repeat (first | apply Kd.R_alloc | apply Kd.R_drewN | apply Kd.R_drew)); exact HO_300002.out))) (below_size (by repeat (first | (with_reducible first | exact HB.out | apply below_alloc | apply pw_below_drewN | apply below_drew1 | refine below_set ?_ GE299.out) | exact HB.out)))); have n2_ := Aside0.mk (blk_below (g := gb299) (o := .cells #[.string t290, .string t291, .slice Ao30 t292.length co30, .string t295, .bool t296, .int .i64 t297, .int .i64 t298] 32 (0, 0)) (by (with_reducible repeat (first | refine blk_drewN ?_ _ | refine blk_drew ?_ | refine blk_alloc ?_ _)); exact BK299.out) hb); have n3_ := Aside0.mk (below_step (by repeat (first | (with_reducible first | exact HB.out | apply below_alloc | apply pw_below_drewN | apply below_drew1 | refine below_set ?_ GE299.out) | exact HB.out)) hb); clear HO_300002; clear BK299; clear HB; have HO_300002 := n0_; have HO305 := n1_; have BK299 := n2_; have HB := n3_; clear n0_ n1_ n2_ n3_; (try clear hb); (try clear hb2); (try clear hk); (try clear hi); (try clear ho0); obtain ⟨Ao42, co42, eo42⟩ := Kd.R_slice HO305.out; subst eo42) | (go_at_call 11; (refine (head_Parse.calls kj24 _ _ ([] : List ByteArray) t310 t311 t312 t315 t316 t317 t318 _ ?side1 ?side2 A39.out).mono ?_); (case side1 => exact Kd.C_nil _ _); (case side2 => exact Nat.le_refl _); rintro e w43 ⟨v313, rfl, ho0, hb⟩; have n0_ := Aside0.mk (Kd.R_elder' (by (with_reducible repeat (first | apply Kd.R_alloc | apply Kd.R_drewN | apply Kd.R_drew)); exact HO_300002.out) (Kd.R_base ho0) hb); have n1_ := Aside0.mk (Kd.R_elder' (by (with_reducible repeat (first | apply Kd.R_alloc | apply Kd.R_drewN | apply Kd.R_drew)); exact HO305.out) (Kd.R_base ho0) hb); have n2_ := Aside0.mk (Kd.R_lower (Kd.R_new' (Kd.R_new' ho0 (Kd.R_lt (by (with_reducible repeat (first | apply Kd.R_alloc | apply Kd.R_drewN | apply Kd.R_drew)); exact HO_300002.out))) (Kd.R_lt (by (with_reducible repeat (first | apply Kd.R_alloc | apply Kd.R_drewN | apply Kd.R_drew)); exact HO305.out))) (below_size (by repeat (first | (with_reducible first | exact HB.out | apply below_alloc | apply pw_below_drewN | apply below_drew1 | refine below_set ?_ GE299.out) | exact HB.out)))); have n3_ := Aside0.mk (blk_below (g := gb299) (o := .cells #[.string t290, .string t291, .slice Ao30 t292.length co30, .string t295, .bool t296, .int .i64 t297, .int .i64 t298] 32 (0, 0)) (by (with_reducible repeat (first | refine blk_drewN ?_ _ | refine blk_drew ?_ | refine blk_alloc ?_ _)); exact BK299.out) hb); have n4_ := Aside0.mk (below_step (by repeat (first | (with_reducible first | exact HB.out | apply below_alloc | apply pw_below_drewN | apply below_drew1 | refine below_set ?_ GE299.out) | exact HB.out)) hb); clear HO_300002; clear HO305; clear BK299; clear HB; have HO_300002 := n0_; have HO305 := n1_; have HO314 := n2_; have BK299 := n3_; have HB := n4_; clear n0_ n1_ n2_ n3_ n4_; (try clear hb); (try clear hb2); (try clear hk); (try clear hi); (try clear ho0)))
                                go_ret
                                exact ⟨by first | rfl | (simp [errW_none, errW_some] <;> rfl) | (simp [*, errW_none, errW_some] <;> rfl), by repeat (first | (with_reducible first | exact HB.out | apply below_alloc | apply pw_below_drewN | apply below_drew1 | refine below_set ?_ GE299.out) | exact HB.out)⟩
                              · rw [if_neg c38] at H
                                have c38b0 : ((t303.length : Int) == 0) = false := beq_eq_false_iff_ne.mpr c38
                                have c38b1 : ((t303.length : Int) != 0) = true := bne_iff_ne.mpr c38
                                have c38b2 : ¬ (t303 = []) := fun h_ => c38 (by rw [h_]; rfl)
                                obtain rfl := Option.some.inj H
                                have hcz44_0 : wc.cell? ⟨gb299, 0, none⟩ = some (.string t290) := (blk_cell BK299.out 0).trans rfl
                                have hcz44_1 : wc.cell? ⟨gb299, 1, none⟩ = some (.string t291) := (blk_cell BK299.out 1).trans rfl
                                have hcz44_2 : wc.cell? ⟨gb299, 2, none⟩ = some (.slice Ao30 t292.length co30) := (blk_cell BK299.out 2).trans rfl
                                have hcz44_3 : wc.cell? ⟨gb299, 3, none⟩ = some (.string t295) := (blk_cell BK299.out 3).trans rfl
                                have hcz44_4 : wc.cell? ⟨gb299, 4, none⟩ = some (.bool t296) := (blk_cell BK299.out 4).trans rfl
                                have hcz44_5 : wc.cell? ⟨gb299, 5, none⟩ = some (.int .i64 t297) := (blk_cell BK299.out 5).trans rfl
                                have hcz44_6 : wc.cell? ⟨gb299, 6, none⟩ = some (.int .i64 t298) := (blk_cell BK299.out 6).trans rfl
                                have hfz44_0 := blk_frozen BK299.out 0
                                have hfz44_1 := blk_frozen BK299.out 1
                                have hfz44_2 := blk_frozen BK299.out 2
                                have hfz44_3 := blk_frozen BK299.out 3
                                have hfz44_4 := blk_frozen BK299.out 4
                                have hfz44_5 := blk_frozen BK299.out 5
                                have hfz44_6 := blk_frozen BK299.out 6
                                go_wp2_with (first | (go_at_call 11; (refine (head_Parse.calls kj24 _ _ ([] : List ByteArray) t301 t302 t303 t306 t307 t308 t309 _ ?side1 ?side2 A37.out).mono ?_); (case side1 => exact Kd.C_nil _ _); (case side2 => exact Nat.le_refl _); rintro e w45 ⟨v304, rfl, ho0, hb⟩; have n0_ := Aside0.mk (Kd.R_elder' (by (with_reducible repeat (first | apply Kd.R_alloc | apply Kd.R_drewN | apply Kd.R_drew)); exact HO_300002.out) (Kd.R_base ho0) hb); have n1_ := Aside0.mk (Kd.R_lower (Kd.R_new' ho0 (Kd.R_lt (by (with_reducible repeat (first | apply Kd.R_alloc | apply Kd.R_drewN | apply Kd.R_drew)); exact HO_300002.out))) (below_size (by repeat (first | (with_reducible first | exact HB.out | apply below_alloc | apply pw_below_drewN | apply below_drew1 | refine below_set ?_ GE299.out) | exact HB.out)))); have n2_ := Aside0.mk (blk_below (g := gb299) (o := .cells #[.string t290, .string t291, .slice Ao30 t292.length co30, .string t295, .bool t296, .int .i64 t297, .int .i64 t298] 32 (0, 0)) (by (with_reducible repeat (first | refine blk_drewN ?_ _ | refine blk_drew ?_ | refine blk_alloc ?_ _)); exact BK299.out) hb); have n3_ := Aside0.mk (below_step (by repeat (first | (with_reducible first | exact HB.out | apply below_alloc | apply pw_below_drewN | apply below_drew1 | refine below_set ?_ GE299.out) | exact HB.out)) hb); clear HO_300002; clear BK299; clear HB; have HO_300002 := n0_; have HO305 := n1_; have BK299 := n2_; have HB := n3_; clear n0_ n1_ n2_ n3_; (try clear hb); (try clear hb2); (try clear hk); (try clear hi); (try clear ho0); obtain ⟨Ao46, co46, eo46⟩ := Kd.R_slice HO305.out; subst eo46))
                                go_ret
                                exact ⟨by first | rfl | (simp [errW_none, errW_some] <;> rfl) | (simp [*, errW_none, errW_some] <;> rfl), by repeat (first | (with_reducible first | exact HB.out | apply below_alloc | apply pw_below_drewN | apply below_drew1 | refine below_set ?_ GE299.out) | exact HB.out)⟩
                            · rw [if_neg c36] at H
                              have c36b0 : ((t292.length : Int) == (wrap64 ((Go.bits .and .i64 a0 31) + 1))) = false := beq_eq_false_iff_ne.mpr c36
                              have c36b1 : ((t292.length : Int) != (wrap64 ((Go.bits .and .i64 a0 31) + 1))) = true := bne_iff_ne.mpr c36
                              obtain rfl := Option.some.inj H
                              have hcz47_0 : wc.cell? ⟨gb299, 0, none⟩ = some (.string t290) := (blk_cell BK299.out 0).trans rfl
                              have hcz47_1 : wc.cell? ⟨gb299, 1, none⟩ = some (.string t291) := (blk_cell BK299.out 1).trans rfl
                              have hcz47_2 : wc.cell? ⟨gb299, 2, none⟩ = some (.slice Ao30 t292.length co30) := (blk_cell BK299.out 2).trans rfl
                              have hcz47_3 : wc.cell? ⟨gb299, 3, none⟩ = some (.string t295) := (blk_cell BK299.out 3).trans rfl
                              have hcz47_4 : wc.cell? ⟨gb299, 4, none⟩ = some (.bool t296) := (blk_cell BK299.out 4).trans rfl
                              have hcz47_5 : wc.cell? ⟨gb299, 5, none⟩ = some (.int .i64 t297) := (blk_cell BK299.out 5).trans rfl
                              have hcz47_6 : wc.cell? ⟨gb299, 6, none⟩ = some (.int .i64 t298) := (blk_cell BK299.out 6).trans rfl
                              have hfz47_0 := blk_frozen BK299.out 0
                              have hfz47_1 := blk_frozen BK299.out 1
                              have hfz47_2 := blk_frozen BK299.out 2
                              have hfz47_3 := blk_frozen BK299.out 3
                              have hfz47_4 := blk_frozen BK299.out 4
                              have hfz47_5 := blk_frozen BK299.out 5
                              have hfz47_6 := blk_frozen BK299.out 6
                              go_wp2
                              go_ret
                              exact ⟨by first | rfl | (simp [errW_none, errW_some] <;> rfl) | (simp [*, errW_none, errW_some] <;> rfl), by repeat (first | (with_reducible first | exact HB.out | apply below_alloc | apply pw_below_drewN | apply below_drew1 | refine below_set ?_ GE299.out) | exact HB.out)⟩
                          · rw [if_neg c35] at H
                            have c35b0 : (t298 == 0) = false := beq_eq_false_iff_ne.mpr c35
                            have c35b1 : (t298 != 0) = true := bne_iff_ne.mpr c35
                            obtain rfl := Option.some.inj H
                            have hcz48_0 : wc.cell? ⟨gb299, 0, none⟩ = some (.string t290) := (blk_cell BK299.out 0).trans rfl
                            have hcz48_1 : wc.cell? ⟨gb299, 1, none⟩ = some (.string t291) := (blk_cell BK299.out 1).trans rfl
                            have hcz48_2 : wc.cell? ⟨gb299, 2, none⟩ = some (.slice Ao30 t292.length co30) := (blk_cell BK299.out 2).trans rfl
                            have hcz48_3 : wc.cell? ⟨gb299, 3, none⟩ = some (.string t295) := (blk_cell BK299.out 3).trans rfl
                            have hcz48_4 : wc.cell? ⟨gb299, 4, none⟩ = some (.bool t296) := (blk_cell BK299.out 4).trans rfl
                            have hcz48_5 : wc.cell? ⟨gb299, 5, none⟩ = some (.int .i64 t297) := (blk_cell BK299.out 5).trans rfl
                            have hcz48_6 : wc.cell? ⟨gb299, 6, none⟩ = some (.int .i64 t298) := (blk_cell BK299.out 6).trans rfl
                            have hfz48_0 := blk_frozen BK299.out 0
                            have hfz48_1 := blk_frozen BK299.out 1
                            have hfz48_2 := blk_frozen BK299.out 2
                            have hfz48_3 := blk_frozen BK299.out 3
                            have hfz48_4 := blk_frozen BK299.out 4
                            have hfz48_5 := blk_frozen BK299.out 5
                            have hfz48_6 := blk_frozen BK299.out 6
                            go_wp2
                            go_ret
                            exact ⟨by first | rfl | (simp [errW_none, errW_some] <;> rfl) | (simp [*, errW_none, errW_some] <;> rfl), by repeat (first | (with_reducible first | exact HB.out | apply below_alloc | apply pw_below_drewN | apply below_drew1 | refine below_set ?_ GE299.out) | exact HB.out)⟩
            · rw [if_neg c16] at H
              exact absurd H (by simp)
          · rw [if_neg c15] at H
            exact absurd H (by simp)
  · replace c4 := Bool.eq_false_iff.mpr c4
    subst c4
    have H1 : (some false) = some r := by rw [if_neg (show ¬ (false = true) by decide)] at H; exact H
    clear H
    have H := H1
    clear H1
    obtain rfl := Option.some.inj H
    go_enter Try.func4, Try.ntmps4
    go_wp2_with (first | ((with_reducible refine gate_callee (f := 9) rfl ?_); refine goesL_ (some 7) rfl rfl Try.func9 (by kernel_rfl) rfl #[] rfl (by (try simp only [List.map_toArray, List.map_cons, List.map_nil]); first | done | rfl | (simp only [List.length_drop, List.length_take]; rfl)) ?_; (with_reducible refine (crossroadlaw02_fit.calls k  false _ A3.out).mono ?_); rintro e w49 ⟨rfl, hb⟩; refine ⟨_, rfl, ?_⟩; have n0_ := Aside0.mk (below_step (by repeat (first | (with_reducible first | exact HB.out | apply below_alloc | apply pw_below_drewN | apply below_drew1) | exact HB.out)) hb); clear HB; have HB := n0_; clear n0_; (try clear hb); (try clear hb2); (try clear hk); (try clear hi)))
    go_ret
    exact ⟨by first | rfl | (simp [errW_none, errW_some] <;> rfl) | (simp [*, errW_none, errW_some] <;> rfl), by repeat (first | (with_reducible first | exact HB.out | apply below_alloc | apply pw_below_drewN | apply below_drew1) | exact HB.out)⟩

/-- THE ONE PURE STATEMENT of crossroadlaw02_HeadMany: yours. -/
def crossroadlaw02_HeadMany.Pure : Prop := ∀ (a0 : Int) (a1 : Int), (Lit.int .i64 a0).wf = true → (Lit.int .i64 a1).wf = true → ∃ k, crossroadlaw02_HeadMany.f k a0 a1 = some true
theorem crossroadlaw02_HeadMany.walk (P : crossroadlaw02_HeadMany.Pure) (a0 : Int) (a1 : Int) (w : World) (w0 : (Lit.int .i64 a0).wf = true) (w1 : (Lit.int .i64 a1).wf = true) :
    Calls Try.prog 4 #[.int .i64 a0, .int .i64 a1] w fun e w' => e = .returned (.bool true) ∧ Below w.heap.size w w' := by
  obtain ⟨k, h⟩ := P a0 a1 w0 w1
  refine (crossroadlaw02_HeadMany.calls k a0 a1 true w h).mono ?_
  rintro e w' ⟨rfl, hd⟩
  exact ⟨rfl, hd⟩

end Go.Proofs.Ytaafeojjcfognaa.X
