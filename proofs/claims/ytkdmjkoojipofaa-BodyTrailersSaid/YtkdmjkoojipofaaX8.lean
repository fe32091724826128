-- Written for this claim by a program of this session (wip/xprint.py). Not trusted: Lean checks it.
import Derived.Test.YtkdmjkoojipofaaX0
import Derived.Test.YtkdmjkoojipofaaX1
import Derived.Test.YtkdmjkoojipofaaX5
import Derived.Test.YtkdmjkoojipofaaX6
import Derived.Test.YtkdmjkoojipofaaX7
namespace Go.Proofs.Ytkdmjkoojipofaa.X
open Go.RowKit Go.Proofs.YtkdmjkoojipofaaW.PrintWords Go.Proofs.YtkdmjkoojipofaaW.PrintLast Go.Proofs.YtkdmjkoojipofaaW.PrintMore
attribute [local go_sem] max2_int min2_int max_two min_two max_three min_three max_four min_four   -- for this text's walks alone
set_option linter.unusedVariables false
set_option linter.unusedSimpArgs false

/-! ### ascii_Token: function 18 -/
def ascii_Token.l0 : Nat → ByteArray → Int → Int → Option (Bool)
  | 0, _, _, _ => none
  | k + 1, x0, x5, x6 => if x6 < x5 then (if 0 ≤ x6 then (if x6 < (x0.size : Int) then ((ascii_mark.f (bt x0 x6)).bind fun t109 => (if t109 = true then (ascii_Token.l0 k x0 x5 (wrap64 (x6 + 1))) else (some false))) else (none)) else (none)) else (some (!x0.toList.isEmpty))
def ascii_Token.f (k : Nat) (a0 : ByteArray) : Option (Bool) := ascii_Token.l0 k a0 (a0.size : Int) 0
theorem ascii_Token.mono_l : ∀ k, (∀ y0 y1 y2, LeO (ascii_Token.l0 k y0 y1 y2) (ascii_Token.l0 (k + 1) y0 y1 y2))
  | 0 => fun _ _ _ r h => by simp [ascii_Token.l0] at h
  | k + 1 => by
    have ih0 := ascii_Token.mono_l k
    · intro y0 y1 y2
      unfold ascii_Token.l0
      repeat' first
      | (with_reducible exact ih0 _ _ _)
      | (with_reducible exact LeO.refl _)
      | (with_reducible exact LeO.none _)
      | (with_reducible refine LeO.ite ?_ ?_)
      | (with_reducible refine LeO.bind ?_ (fun _ => ?_))
      | exact ih0 _ _ _
      | exact LeO.none _
      | refine LeO.ite ?_ ?_
      | refine LeO.bind ?_ (fun _ => ?_)
theorem ascii_Token.mono : ∀ a0 k, LeO (ascii_Token.f k a0) (ascii_Token.f (k + 1) a0) := by
  intro a0 k
  have ih0 := ascii_Token.mono_l k
  unfold ascii_Token.f
  repeat' first
      | (with_reducible exact ih0 _ _ _)
      | (with_reducible exact LeO.refl _)
      | (with_reducible exact LeO.none _)
      | (with_reducible refine LeO.ite ?_ ?_)
      | (with_reducible refine LeO.bind ?_ (fun _ => ?_))
      | exact ih0 _ _ _
      | exact LeO.none _
      | refine LeO.ite ?_ ?_
      | refine LeO.bind ?_ (fun _ => ?_)
set_option maxHeartbeats 8000000 in
set_option maxRecDepth 100000 in
theorem ascii_Token.calls (k : Nat) (a0 : ByteArray) (r : Bool) (w : World) (h : ascii_Token.f k a0 = some r) :
    Calls Try.prog 18 #[.string a0] w fun e w' => e = .returned (.bool r) ∧ Drawn0 w w' := by
  have H : (ascii_Token.l0 k a0 (a0.size : Int) 0) = some r := h
  clear h
  have H' := Aside0.mk H
  clear H
  go_enter Try.func18, Try.ntmps18
  go_wp2
  go_loopg [6] k (fun kq v6 w' => ∃ (x6_1 : Int), v6 = .int .i64 x6_1 ∧ Aside0 (ascii_Token.l0 kq a0 (a0.size : Int) x6_1 = some r) ∧ Aside0 (kq ≤ k) ∧ Drawn0 w w')
  case atStart => exact ⟨(0), (by first | rfl | (simp; done) | (simp [*]; done)), H', ⟨Nat.le_refl _⟩, by repeat (first | exact Drawn0.refl _ | apply Drawn0.step)⟩
  case round =>
    clear H'
    try clear c1
    obtain ⟨x6_1, rfl, HA, HK1, ⟨m1, rfl⟩⟩ := hrel
    cases gk with
    | zero => exact absurd HA.out (by simp [ascii_Token.l0])
    | succ k1 =>
      have H := HA.out
      clear HA
      simp only [ascii_Token.l0] at H
      by_cases c2 : x6_1 < (a0.size : Int)
      · rw [if_pos c2] at H
        have c2b0 : decide (x6_1 < (a0.size : Int)) = true := decide_eq_true c2
        clear c2
        by_cases c3 : 0 ≤ x6_1
        · rw [if_pos c3] at H
          have c3b0 : decide (0 ≤ x6_1) = true := decide_eq_true c3
          clear c3
          by_cases c4 : x6_1 < (a0.size : Int)
          · rw [if_pos c4] at H
            have c4b0 : decide (x6_1 < (a0.size : Int)) = true := decide_eq_true c4
            clear c4
            replace H := Option.bind_eq_some_iff.mp H
            obtain ⟨t109, A60, H⟩ := H
            replace H : (if t109 = true then (ascii_Token.l0 k1 a0 (a0.size : Int) (wrap64 (x6_1 + 1))) else (some false)) = some r := H
            have A6 := Aside0.mk A60
            clear A60
            by_cases c7 : t109 = true
            · subst c7
              have H1 : (ascii_Token.l0 k1 a0 (a0.size : Int) (wrap64 (x6_1 + 1))) = some r := by rw [if_pos rfl] at H; exact H
              clear H
              have H := H1
              clear H1
              have H' := Aside0.mk H
              clear H
              have p5 : 0 ≤ (x6_1 : Int) := of_decide_eq_true (by first | (with_reducible assumption) | assumption)
              have q5 : x6_1 < (a0.size : Int) := of_decide_eq_true (by first | (with_reducible assumption) | assumption)
              have hx5 := bt_at a0 x6_1
              replace p5 := eq_true p5
              replace q5 := eq_true q5
              go_wp2_with (first | ((with_reducible refine gate_callee (f := 23) rfl ?_); refine goesL_ (some 12) rfl rfl Try.func23 (by kernel_rfl) rfl #[.int .u8 (bt a0 x6_1)] rfl (by (try simp only [List.map_toArray, List.map_cons, List.map_nil]); first | done | rfl | (simp only [List.length_drop, List.length_take]; rfl)) ?_; (with_reducible refine (ascii_mark.calls (bt a0 x6_1) true _ A6.out).mono ?_); rintro e w' ⟨rfl, ⟨nd, rfl⟩⟩; refine ⟨_, rfl, ?_⟩))
              go_roundg k1
              case measure => have := HK1.out; omega
              case rel => exact ⟨(wrap64 (x6_1 + 1)), (by first | rfl | (simp; done) | (simp [*]; done)), H', ⟨by have := HK1.out; omega⟩, by repeat (first | exact Drawn0.refl _ | apply Drawn0.step)⟩
            · replace c7 := Bool.eq_false_iff.mpr c7
              subst c7
              have H1 : (some false) = some r := by rw [if_neg (show ¬ (false = true) by decide)] at H; exact H
              clear H
              have H := H1
              clear H1
              obtain rfl := Option.some.inj H
              have p5 : 0 ≤ (x6_1 : Int) := of_decide_eq_true (by first | (with_reducible assumption) | assumption)
              have q5 : x6_1 < (a0.size : Int) := of_decide_eq_true (by first | (with_reducible assumption) | assumption)
              have hx5 := bt_at a0 x6_1
              replace p5 := eq_true p5
              replace q5 := eq_true q5
              go_wp2_with (first | ((with_reducible refine gate_callee (f := 23) rfl ?_); refine goesL_ (some 12) rfl rfl Try.func23 (by kernel_rfl) rfl #[.int .u8 (bt a0 x6_1)] rfl (by (try simp only [List.map_toArray, List.map_cons, List.map_nil]); first | done | rfl | (simp only [List.length_drop, List.length_take]; rfl)) ?_; (with_reducible refine (ascii_mark.calls (bt a0 x6_1) false _ A6.out).mono ?_); rintro e w' ⟨rfl, ⟨nd, rfl⟩⟩; refine ⟨_, rfl, ?_⟩))
              go_ret
              exact ⟨by first | rfl | (simp; done) | (simp [*]; done), by repeat (first | exact Drawn0.refl _ | apply Drawn0.step)⟩
          · rw [if_neg c4] at H
            exact absurd H (by simp)
        · rw [if_neg c3] at H
          exact absurd H (by simp)
      · rw [if_neg c2] at H
        have c2b0 : decide (x6_1 < (a0.size : Int)) = false := decide_eq_false c2
        clear c2
        obtain rfl := Option.some.inj H
        go_wp2
        go_ret
        exact ⟨by first | rfl | (simp; done) | (simp [*]; done), by repeat (first | exact Drawn0.refl _ | apply Drawn0.step)⟩

/-! ### crossroadlaw03_fit: function 9 -/
def fitB (j : Nat) (n : Nat) : Base := ⟨n, fun j' o' => j' = j ∧ o' = (.cells (nums .u8 ([50, 13, 10, 97, 98, 13, 10, 49, 13, 10, 99, 13, 10, 48, 13, 10, 13, 10] : List Int)).toArray 5 ((nums .u8 ([50, 13, 10, 97, 98, 13, 10, 49, 13, 10, 99, 13, 10, 48, 13, 10, 13, 10] : List Int)).toArray.size, (nums .u8 ([50, 13, 10, 97, 98, 13, 10, 49, 13, 10, 99, 13, 10, 48, 13, 10, 13, 10] : List Int)).toArray.size + 1))⟩
theorem nums_at (xs : List Int) (m : Nat) (h : m < xs.length) : (nums .u8 xs).toArray[m]? = some (.int .u8 (xs.getD m 0)) := by
  simp [nums, List.getElem?_map, List.getElem?_eq_getElem h, List.getD_eq_getElem?_getD]
theorem fit_cell {w : World} {n : Nat} {V : Value} {b : BodyS} {ad : Addr} {j : Nat} (hO : BodyOwn w (fitB j n) V b) (had : ad = (⟨j, 0, none⟩ : Addr)) (i : Int) (h0 : 0 ≤ i) (h1 : i < 18) : w.cell? (ad.add i.toNat) = some (.int .u8 (rd ([50, 13, 10, 97, 98, 13, 10, 49, 13, 10, 99, 13, 10, 48, 13, 10, 13, 10] : List Int) i)) := by
  have hs := BodyOwn.seen hO
  rw [had, add_plain, cell_of_row w j i.toNat _ _ _ hs]
  have hi : i.toNat < 18 := by omega
  exact nums_at ([50, 13, 10, 97, 98, 13, 10, 49, 13, 10, 99, 13, 10, 48, 13, 10, 13, 10] : List Int) i.toNat hi
def fit03L : Nat → BodyS → Int → Option Bool
  | 0, _, _ => none
  | k + 1, b, x => if x < 18 then (if 0 ≤ x then (body_Body_Feed.f k b (rd ([50, 13, 10, 97, 98, 13, 10, 49, 13, 10, 99, 13, 10, 48, 13, 10, 13, 10] : List Int) x)).bind fun b' => fit03L k b' (wrap64 (x + 1)) else none)
    else if b.done = true ∧ b.status = 0 ∧ b.data = [97, 98, 99] then (ascii_Token.f k (⟨#[97]⟩ : ByteArray)).bind fun t => if t = true then some true else none else none
def crossroadlaw03_fit.f (k : Nat) : Option Bool := fit03L k (newB (-1)) 0
theorem fit03L_mono : ∀ k b x, LeO (fit03L k b x) (fit03L (k + 1) b x)
  | 0 => fun _ _ r h => by simp [fit03L] at h
  | k + 1 => fun b x => by
    rw [fit03L, fit03L]
    exact LeO.ite (LeO.ite (LeO.bind (body_Body_Feed.mono _ _ _) (fun _ => fit03L_mono k _ _)) (LeO.refl _)) (LeO.ite (LeO.bind (ascii_Token.mono _ _) (fun _ => LeO.refl _)) (LeO.refl _))
theorem crossroadlaw03_fit.mono : ∀ k, LeO (crossroadlaw03_fit.f k) (crossroadlaw03_fit.f (k + 1)) := fun k => fit03L_mono k (newB (-1)) 0
set_option maxHeartbeats 4000000 in
set_option maxRecDepth 100000 in
theorem crossroadlaw03_fit.calls (k : Nat) (r : Bool) (w : World) (h : crossroadlaw03_fit.f k = some r) :
    Calls Try.prog 9 #[] w fun e w' => e = .returned (.bool r) ∧ Below w.heap.size w w' := by
  have H0 := Aside0.mk h
  clear h
  go_enter Try.func9, Try.ntmps9
  go_wp2_with (first
    | (go_at_call 17; refine (body_New.calls (-1) (newB (-1)) _ rfl).mono ?_; rintro e w2 ⟨V, rfl, hO, hb⟩; have HO := Aside0.mk hO; have HB := Aside0.mk hb; clear hO hb)
    | ((with_reducible refine gate_dst (N := 5) rfl ?_); refine Kd.B_const (w0 := w) w.heap.size 5 ?hg ?hg2 (N := 5) ?hd ([50, 13, 10, 97, 98, 13, 10, 49, 13, 10, 99, 13, 10, 48, 13, 10, 13, 10] : List Int) ?hr 39 ?h2 ?hx Try.underlying39 Try.underlying5 HB.out ?hbase ?_; (case hd => rfl); (case hg => rfl); (case hg2 => rfl); (case h2 => rfl); (case hbase => exact HB.out.size); (case hx => first | rfl | (go_simp; done)); (case hr => first | (go_simp; done) | (go_simp; rfl)); intro ad w3 had hblk hb1 hb2; have HO3 := Aside0.mk (show BodyOwn w3 (fitB w2.heap.size w.heap.size) V (newB (-1)) from HO.out.watch hb2 (Nat.le_refl _) hblk); have HB3 := Aside0.mk hb1; have HAD := Aside0.mk had; clear had hblk hb1 hb2 HO HB))
  go_loopg [8] k (fun kq v8 w' => ∃ (n : Int) (b : BodyS), v8 = .int .i64 n ∧ Aside0 (fit03L kq b n = some r) ∧ Aside0 (kq ≤ k) ∧ Aside0 (BodyOwn w' (fitB w2.heap.size w.heap.size) V b) ∧ Aside0 (Below w.heap.size w w'))
  case atStart => exact ⟨0, newB (-1), rfl, ⟨H0.out⟩, ⟨Nat.le_refl _⟩, ⟨HO3.out⟩, ⟨HB3.out⟩⟩
  case round =>
    clear HO3 HB3 H0
    obtain ⟨n, b, rfl, HA, HK, HO, HB⟩ := hrel
    cases gk with
    | zero => exact absurd HA.out (by simp [fit03L])
    | succ k1 =>
      have H := HA.out
      clear HA
      rw [fit03L] at H
      by_cases c1 : n < 18
      · rw [if_pos c1] at H
        have t1 : decide (n < 18) = true := decide_eq_true c1
        by_cases c3 : 0 ≤ n
        · rw [if_pos c3] at H
          have t3 : decide (0 ≤ n) = true := decide_eq_true c3
          obtain ⟨b', hb', hn⟩ := Option.bind_eq_some_iff.1 H
          have AB := Aside0.mk hb'
          have H' := Aside0.mk hn
          have hx := fit_cell HO.out HAD.out n c3 c1
          have p1 := eq_true c3
          have q1 := eq_true c1
          clear H hb' hn c3 c1
          go_wp2_with (go_at_call 14; refine (body_Body_Feed.calls k1 V (fitB w2.heap.size w.heap.size) b (rd ([50, 13, 10, 97, 98, 13, 10, 49, 13, 10, 99, 13, 10, 48, 13, 10, 13, 10] : List Int) n) b' _ HO.out AB.out).mono ?_; rintro e w9 ⟨rfl, hO9, hB9⟩; have H9 := Aside0.mk hO9; have HB9 := Aside0.mk (HB.out.trans hB9); clear hO9 hB9)
          go_roundg k1
          case measure => have := HK.out; omega
          case rel => exact ⟨wrap64 (n + 1), b', rfl, H', ⟨by have := HK.out; omega⟩, H9, HB9⟩
        · rw [if_neg c3] at H; exact absurd H (by simp)
      · rw [if_neg c1] at H
        have t1 : decide (n < 18) = false := decide_eq_false c1
        by_cases c2 : b.done = true ∧ b.status = 0 ∧ b.data = [97, 98, 99]
        · rw [if_pos c2] at H
          obtain ⟨tk, htk, hr⟩ := Option.bind_eq_some_iff.1 H
          by_cases c4 : tk = true
          · rw [if_pos c4] at hr
            subst c4
            obtain rfl := Option.some.inj hr
            have AT := Aside0.mk htk
            have HD := Aside0.mk (show body_Body_Done.f b = some true by rw [body_Body_Done.f, c2.1])
            have HS := Aside0.mk (show body_Body_Status.f b = some 0 by rw [body_Body_Status.f, c2.2.1])
            have HT := Aside0.mk (show body_Body_Data.f b = some (⟨#[97, 98, 99]⟩ : ByteArray) by rw [body_Body_Data.f, c2.2.2]; rfl)
            clear H hr htk c2 c1
            go_wp2_with (first
              | (go_at_call 13; refine (body_Body_Done.calls V (fitB w2.heap.size w.heap.size) b true _ (by first | exact HO.out | exact BodyOwn.drewN HO.out) HD.out).mono ?_; rintro e w' ⟨rfl, ⟨nd, rfl⟩⟩)
              | (go_at_call 11; refine (body_Body_Status.calls V (fitB w2.heap.size w.heap.size) b 0 _ (by repeat (first | exact HO.out | refine BodyOwn.drewN ?_)) HS.out).mono ?_; rintro e w' ⟨rfl, ⟨nd, rfl⟩⟩)
              | (go_at_call 12; refine (body_Body_Data.calls V (fitB w2.heap.size w.heap.size) b _ _ (by repeat (first | exact HO.out | refine BodyOwn.drewN ?_)) HT.out).mono ?_; rintro e w' ⟨rfl, ⟨nd, rfl⟩⟩)
              | (go_at_call 18; refine (ascii_Token.calls k1 (⟨#[97]⟩ : ByteArray) true _ AT.out).mono ?_; rintro e w' ⟨rfl, ⟨nd, rfl⟩⟩))
            go_ret
            exact ⟨rfl, by repeat (first | exact HB.out | refine pw_below_drewN ?_ _)⟩
          · rw [if_neg c4] at hr; cases hr
        · rw [if_neg c2] at H; cases H

end Go.Proofs.Ytkdmjkoojipofaa.X
