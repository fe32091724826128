-- Made smaller by wip/squeeze.py out of this claim's texts. Not trusted: Lean checks it.
import Derived.Test.YtldaingkcnmaoaaDoorX18
namespace Go.Proofs.YtldaingkcnmaoaaDoor.X
open Go.RowKit Go.Proofs.YtldaingkcnmaoaaDoorW.PrintWords Go.Proofs.YtldaingkcnmaoaaDoorW.PrintLast Go.Proofs.YtldaingkcnmaoaaDoorW.PrintMore
attribute [local go_sem] max2_int min2_int max_two min_two max_three min_three max_four min_four
set_option linter.unusedVariables false
set_option linter.unusedSimpArgs false
def body_Chunks.l0 : Nat → ByteArray → Int → ByteArray → Option (ByteArray)
 | 0, _, _, _ => none
 | k + 1, x0, x1, x5 => if x0.toList = ([] : List UInt8) then (if x5.size + 5 ≤ 9223372036854775807 then (some (x5 ++ (⟨#[48, 13, 10, 13, 10]⟩ : ByteArray))) else (none)) else ((body_hex.f k (mn x1 (x0.size : Int))).bind fun t282 => (if t282.size + 2 ≤ 9223372036854775807 then (if 0 ≤ (mn x1 (x0.size : Int)) then (if (mn x1 (x0.size : Int)) ≤ (x0.size : Int) then (if (t282 ++ (⟨#[13, 10]⟩ : ByteArray)).size + (x0.extract 0 ((mn x1 (x0.size : Int)) : Int).toNat).size ≤ 9223372036854775807 then (if ((t282 ++ (⟨#[13, 10]⟩ : ByteArray)) ++ (x0.extract 0 ((mn x1 (x0.size : Int)) : Int).toNat)).size + 2 ≤ 9223372036854775807 then (if x5.size + (((t282 ++ (⟨#[13, 10]⟩ : ByteArray)) ++ (x0.extract 0 ((mn x1 (x0.size : Int)) : Int).toNat)) ++ (⟨#[13, 10]⟩ : ByteArray)).size ≤ 9223372036854775807 then (body_Chunks.l0 k (x0.extract ((mn x1 (x0.size : Int)) : Int).toNat x0.size) x1 (x5 ++ (((t282 ++ (⟨#[13, 10]⟩ : ByteArray)) ++ (x0.extract 0 ((mn x1 (x0.size : Int)) : Int).toNat)) ++ (⟨#[13, 10]⟩ : ByteArray)))) else (none)) else (none)) else (none)) else (none)) else (none)) else (none)))
def body_Chunks.f (k : Nat) (a0 : ByteArray) (a1 : Int) : Option (ByteArray) := body_Chunks.l0 k a0 (mx a1 1) (⟨#[]⟩ : ByteArray)
theorem body_Chunks.mono_l : ∀ k, (∀ y0 y1 y2, LeO (body_Chunks.l0 k y0 y1 y2) (body_Chunks.l0 (k + 1) y0 y1 y2))
 | 0 => fun _ _ _ r h => by simp [body_Chunks.l0] at h
 | k + 1 => by
  have ih0 := body_Chunks.mono_l k
  · intro y0 y1 y2
    unfold body_Chunks.l0
    repeat' first
    | (with_reducible exact ih0 _ _ _)
    | (with_reducible exact body_hex.mono _ _)
    | (with_reducible exact LeO.refl _)
    | (with_reducible exact LeO.none _)
    | (with_reducible refine LeO.ite ?_ ?_)
    | (with_reducible refine LeO.bind ?_ (fun _ => ?_))
    | exact ih0 _ _ _
    | exact body_hex.mono _ _
    | exact LeO.none _
    | refine LeO.ite ?_ ?_
    | refine LeO.bind ?_ (fun _ => ?_)
theorem body_Chunks.mono : ∀ a0 a1 k, LeO (body_Chunks.f k a0 a1) (body_Chunks.f (k + 1) a0 a1) := by
 intro a0 a1 k
 have ih0 := body_Chunks.mono_l k
 unfold body_Chunks.f
 repeat' first
     | (with_reducible exact ih0 _ _ _)
     | (with_reducible exact body_hex.mono _ _)
     | (with_reducible exact LeO.refl _)
     | (with_reducible exact LeO.none _)
     | (with_reducible refine LeO.ite ?_ ?_)
     | (with_reducible refine LeO.bind ?_ (fun _ => ?_))
     | exact ih0 _ _ _
     | exact body_hex.mono _ _
     | exact LeO.none _
     | refine LeO.ite ?_ ?_
     | refine LeO.bind ?_ (fun _ => ?_)
set_option maxHeartbeats 8000000 in
set_option maxRecDepth 100000 in
theorem body_Chunks.calls (k : Nat) (a0 : ByteArray) (a1 : Int) (r : ByteArray) (w : World) (h : body_Chunks.f k a0 a1 = some r) :
    Calls Tryd.prog 21 #[.string a0, .int .i64 a1] w fun e w' => e = .returned (.string r) ∧ Below w.heap.size w w' := by
 have HB := Aside0.mk (Below.refl w.heap.size w)
 have H : (body_Chunks.l0 k a0 (mx a1 1) (⟨#[]⟩ : ByteArray)) = some r := h
 clear h
 obtain ⟨ji3, hji3⟩ : ∃ j_ : Int, (mx a1 1) = j_ := ⟨_, rfl⟩
 replace H : (body_Chunks.l0 k a0 ji3 (⟨#[]⟩ : ByteArray)) = some r := by first | (rw [hji3] at H; exact H) | (simp only [hji3] at H ⊢; exact H)
 (try (have hji3l : 1 ≤ ji3 := by (rw [← hji3]; unfold mx; (repeat' split) <;> omega)))
 (try (have hji3m : 0 ≤ ji3 := by omega))
 have hji3_ : (if a1 < 1 then 1 else a1) = ji3 := hji3
 have H' := Aside0.mk H
 clear H
 go_enter Tryd.func21, Tryd.ntmps21
 go_wp2
 repeat (go_quiet (fail); try go_wp2)
 go_loopg [0, 5] k (fun kq v0 v5 w' => ∃ (x0_1 : ByteArray) (x5_1 : ByteArray), v0 = .string x0_1 ∧ v5 = .string x5_1 ∧ Aside0 (body_Chunks.l0 kq x0_1 ji3 x5_1 = some r) ∧ Aside0 (kq ≤ k) ∧ Aside0 (Below w.heap.size w w'))
 case atStart => exact ⟨(a0), ((⟨#[]⟩ : ByteArray)), (by first | rfl | (simp; done) | (simp [*]; done)), (by first | rfl | (simp; done) | (simp [*]; done)), H', ⟨Nat.le_refl _⟩, ⟨by repeat (first | (with_reducible first | exact HB.out | apply below_alloc | apply pw_below_drewN | apply below_drew1) | exact HB.out)⟩⟩
 case round =>
  clear H'
  try clear c2
  try clear p2
  obtain ⟨x0_1, x5_1, rfl, rfl, HA, HK1, HB⟩ := hrel
  cases gk with
  | zero => exact absurd HA.out (by simp [body_Chunks.l0])
  | succ k1 =>
   have H := HA.out
   clear HA
   simp only [body_Chunks.l0] at H
   by_cases c4 : x0_1.toList = ([] : List UInt8)
   · rw [if_pos c4] at H
     have c4b0 : (x0_1.toList == ([] : List UInt8)) = true := beq_iff_eq.mpr c4
     have c4b1 : (x0_1.toList != ([] : List UInt8)) = false := bne_eq_false_iff_eq.mpr c4
     clear c4
     by_cases c5 : x5_1.size + 5 ≤ 9223372036854775807
     · rw [if_pos c5] at H
       have c5b0 := eq_true c5
       have c5b1 : decide (x5_1.size + 5 ≤ 9223372036854775807) = true := decide_eq_true c5
       try have c5b2 : (9223372036854775807 < x5_1.size + 5) = False := eq_false (Nat.not_lt.2 c5)
       obtain rfl := Option.some.inj H
       go_wp2
       repeat (go_quiet (fail); try go_wp2)
       go_ret
       exact ⟨by first | rfl | (simp [errW_none, errW_some] <;> rfl) | (simp only [← hji3]; first | rfl | (simp [errW_none, errW_some] <;> rfl)) | (simp [*, errW_none, errW_some] <;> rfl), by repeat (first | (with_reducible first | exact HB.out | apply below_alloc | apply pw_below_drewN | apply below_drew1) | exact HB.out)⟩
     · rw [if_neg c5] at H
       exact absurd H (by simp)
   · rw [if_neg c4] at H
     have c4b0 : (x0_1.toList == ([] : List UInt8)) = false := beq_eq_false_iff_ne.mpr c4
     have c4b1 : (x0_1.toList != ([] : List UInt8)) = true := bne_iff_ne.mpr c4
     obtain ⟨ji6, hji6⟩ : ∃ j_ : Int, (mn ji3 (x0_1.size : Int)) = j_ := ⟨_, rfl⟩
     replace H : ((body_hex.f k1 (ji6)).bind fun t282 => (if t282.size + 2 ≤ 9223372036854775807 then (if 0 ≤ (ji6) then (if (ji6) ≤ (x0_1.size : Int) then (if (t282 ++ (⟨#[13, 10]⟩ : ByteArray)).size + (x0_1.extract 0 ((ji6) : Int).toNat).size ≤ 9223372036854775807 then (if ((t282 ++ (⟨#[13, 10]⟩ : ByteArray)) ++ (x0_1.extract 0 ((ji6) : Int).toNat)).size + 2 ≤ 9223372036854775807 then (if x5_1.size + (((t282 ++ (⟨#[13, 10]⟩ : ByteArray)) ++ (x0_1.extract 0 ((ji6) : Int).toNat)) ++ (⟨#[13, 10]⟩ : ByteArray)).size ≤ 9223372036854775807 then (body_Chunks.l0 k1 (x0_1.extract ((ji6) : Int).toNat x0_1.size) ji3 (x5_1 ++ (((t282 ++ (⟨#[13, 10]⟩ : ByteArray)) ++ (x0_1.extract 0 ((ji6) : Int).toNat)) ++ (⟨#[13, 10]⟩ : ByteArray)))) else (none)) else (none)) else (none)) else (none)) else (none)) else (none))) = some r := by first | (rw [hji6] at H; exact H) | (simp only [hji6] at H ⊢; exact H)
     have hji6_ : (if (x0_1.size : Int) < ji3 then (x0_1.size : Int) else ji3) = ji6 := hji6
     replace H := Option.bind_eq_some_iff.mp H
     obtain ⟨t282, A70, H⟩ := H
     replace H : (if t282.size + 2 ≤ 9223372036854775807 then (if 0 ≤ (ji6) then (if (ji6) ≤ (x0_1.size : Int) then (if (t282 ++ (⟨#[13, 10]⟩ : ByteArray)).size + (x0_1.extract 0 ((ji6) : Int).toNat).size ≤ 9223372036854775807 then (if ((t282 ++ (⟨#[13, 10]⟩ : ByteArray)) ++ (x0_1.extract 0 ((ji6) : Int).toNat)).size + 2 ≤ 9223372036854775807 then (if x5_1.size + (((t282 ++ (⟨#[13, 10]⟩ : ByteArray)) ++ (x0_1.extract 0 ((ji6) : Int).toNat)) ++ (⟨#[13, 10]⟩ : ByteArray)).size ≤ 9223372036854775807 then (body_Chunks.l0 k1 (x0_1.extract ((ji6) : Int).toNat x0_1.size) ji3 (x5_1 ++ (((t282 ++ (⟨#[13, 10]⟩ : ByteArray)) ++ (x0_1.extract 0 ((ji6) : Int).toNat)) ++ (⟨#[13, 10]⟩ : ByteArray)))) else (none)) else (none)) else (none)) else (none)) else (none)) else (none)) = some r := H
     have A7 := Aside0.mk A70
     clear A70
     by_cases c8 : t282.size + 2 ≤ 9223372036854775807
     · rw [if_pos c8] at H
       have c8b0 := eq_true c8
       have c8b1 : decide (t282.size + 2 ≤ 9223372036854775807) = true := decide_eq_true c8
       try have c8b2 : (9223372036854775807 < t282.size + 2) = False := eq_false (Nat.not_lt.2 c8)
       by_cases c10 : 0 ≤ (ji6)
       · rw [if_pos c10] at H
         have c10b0 := eq_true c10
         have c10b1 : decide (0 ≤ (ji6)) = true := decide_eq_true c10
         clear c10
         by_cases c11 : (ji6) ≤ (x0_1.size : Int)
         · rw [if_pos c11] at H
           have c11b0 := eq_true c11
           have c11b1 : decide ((ji6) ≤ (x0_1.size : Int)) = true := decide_eq_true c11
           clear c11
           by_cases c12 : (t282 ++ (⟨#[13, 10]⟩ : ByteArray)).size + (x0_1.extract 0 ((ji6) : Int).toNat).size ≤ 9223372036854775807
           · rw [if_pos c12] at H
             have c12b0 := eq_true c12
             have c12b1 : decide ((t282 ++ (⟨#[13, 10]⟩ : ByteArray)).size + (x0_1.extract 0 ((ji6) : Int).toNat).size ≤ 9223372036854775807) = true := decide_eq_true c12
             try have c12b2 : (9223372036854775807 < (t282 ++ (⟨#[13, 10]⟩ : ByteArray)).size + (x0_1.extract 0 ((ji6) : Int).toNat).size) = False := eq_false (Nat.not_lt.2 c12)
             try have c12b3 : (9223372036854775807 < t282.size + 2 + (x0_1.extract 0 ((ji6) : Int).toNat).size) = False := eq_false (by have h_ := c12; simp only [ByteArray.size_append] at h_; have e0_ : (⟨#[13, 10]⟩ : ByteArray).size = 2 := rfl; omega)
             try have c12b4 : (9223372036854775807 < t282.size + 2 + ((ji6) : Int).toNat) = False := eq_false (by have es_ : (x0_1.extract 0 ((ji6) : Int).toNat).size = ((ji6) : Int).toNat := (by have h_ := of_decide_eq_true c11b1; simp only [ByteArray.size_extract]; omega); rw [← es_]; exact fun q_ => c12b3.mp q_)
             by_cases c13 : ((t282 ++ (⟨#[13, 10]⟩ : ByteArray)) ++ (x0_1.extract 0 ((ji6) : Int).toNat)).size + 2 ≤ 9223372036854775807
             · rw [if_pos c13] at H
               have c13b0 := eq_true c13
               have c13b1 : decide (((t282 ++ (⟨#[13, 10]⟩ : ByteArray)) ++ (x0_1.extract 0 ((ji6) : Int).toNat)).size + 2 ≤ 9223372036854775807) = true := decide_eq_true c13
               try have c13b2 : (9223372036854775807 < ((t282 ++ (⟨#[13, 10]⟩ : ByteArray)) ++ (x0_1.extract 0 ((ji6) : Int).toNat)).size + 2) = False := eq_false (Nat.not_lt.2 c13)
               try have c13b3 : (9223372036854775807 < t282.size + 2 + (x0_1.extract 0 ((ji6) : Int).toNat).size + 2) = False := eq_false (by have h_ := c13; simp only [ByteArray.size_append] at h_; have e0_ : (⟨#[13, 10]⟩ : ByteArray).size = 2 := rfl; omega)
               try have c13b4 : (9223372036854775807 < t282.size + 2 + ((ji6) : Int).toNat + 2) = False := eq_false (by have es_ : (x0_1.extract 0 ((ji6) : Int).toNat).size = ((ji6) : Int).toNat := (by have h_ := of_decide_eq_true c11b1; simp only [ByteArray.size_extract]; omega); rw [← es_]; exact fun q_ => c13b3.mp q_)
               by_cases c14 : x5_1.size + (((t282 ++ (⟨#[13, 10]⟩ : ByteArray)) ++ (x0_1.extract 0 ((ji6) : Int).toNat)) ++ (⟨#[13, 10]⟩ : ByteArray)).size ≤ 9223372036854775807
               · rw [if_pos c14] at H
                 have c14b0 := eq_true c14
                 have c14b1 : decide (x5_1.size + (((t282 ++ (⟨#[13, 10]⟩ : ByteArray)) ++ (x0_1.extract 0 ((ji6) : Int).toNat)) ++ (⟨#[13, 10]⟩ : ByteArray)).size ≤ 9223372036854775807) = true := decide_eq_true c14
                 try have c14b2 : (9223372036854775807 < x5_1.size + (((t282 ++ (⟨#[13, 10]⟩ : ByteArray)) ++ (x0_1.extract 0 ((ji6) : Int).toNat)) ++ (⟨#[13, 10]⟩ : ByteArray)).size) = False := eq_false (Nat.not_lt.2 c14)
                 try have c14b3 : (9223372036854775807 < x5_1.size + t282.size + 2 + (x0_1.extract 0 ((ji6) : Int).toNat).size + 2) = False := eq_false (by have h_ := c14; simp only [ByteArray.size_append] at h_; have e0_ : (⟨#[13, 10]⟩ : ByteArray).size = 2 := rfl; omega)
                 try have c14b4 : (9223372036854775807 < x5_1.size + t282.size + 2 + ((ji6) : Int).toNat + 2) = False := eq_false (by have es_ : (x0_1.extract 0 ((ji6) : Int).toNat).size = ((ji6) : Int).toNat := (by have h_ := of_decide_eq_true c11b1; simp only [ByteArray.size_extract]; omega); rw [← es_]; exact fun q_ => c14b3.mp q_)
                 have c16b0 := eq_true (of_decide_eq_true (by first | (with_reducible assumption) | assumption) : 0 ≤ (ji6))
                 have c17b0 := eq_true (of_decide_eq_true (by first | (with_reducible assumption) | assumption) : (ji6) ≤ (x0_1.size : Int))
                 have H' := Aside0.mk H
                 clear H
                 go_wp2_with (first | (go_at_call 32; (with_reducible refine (body_hex.calls k1 ji6 t282 _ A7.out).mono ?_); rintro e w' ⟨rfl, ⟨nd, rfl⟩⟩; (try first | exact ⟨rfl, _, World.drewN_drewN _ _ _⟩ | exact ⟨rfl, _, Eq.trans (World.drewN_drewN _ _ _) (congrArg (World.drewN _) (Nat.add_assoc _ _ _))⟩)))
                 repeat (go_quiet (first | (go_at_call 32; (with_reducible refine (body_hex.calls k1 ji6 t282 _ A7.out).mono ?_); rintro e w' ⟨rfl, ⟨nd, rfl⟩⟩; (try first | exact ⟨rfl, _, World.drewN_drewN _ _ _⟩ | exact ⟨rfl, _, Eq.trans (World.drewN_drewN _ _ _) (congrArg (World.drewN _) (Nat.add_assoc _ _ _))⟩))); try go_wp2_with (first | (go_at_call 32; (with_reducible refine (body_hex.calls k1 ji6 t282 _ A7.out).mono ?_); rintro e w' ⟨rfl, ⟨nd, rfl⟩⟩; (try first | exact ⟨rfl, _, World.drewN_drewN _ _ _⟩ | exact ⟨rfl, _, Eq.trans (World.drewN_drewN _ _ _) (congrArg (World.drewN _) (Nat.add_assoc _ _ _))⟩))))
                 go_roundg k1
                 case measure => have := HK1.out; omega
                 case rel => exact ⟨(x0_1.extract ((ji6) : Int).toNat x0_1.size), (x5_1 ++ (((t282 ++ (⟨#[13, 10]⟩ : ByteArray)) ++ (x0_1.extract 0 ((ji6) : Int).toNat)) ++ (⟨#[13, 10]⟩ : ByteArray))), (by first | rfl | (simp; done) | (simp only [← hji6] <;> (first | rfl | simp)) | (simp [*]; done)), (by first | rfl | (simp; done) | (simp only [← hji6] <;> (first | rfl | simp)) | (simp [*]; done)), H', ⟨by have := HK1.out; omega⟩, ⟨by repeat (first | (with_reducible first | exact HB.out | apply below_alloc | apply pw_below_drewN | apply below_drew1) | exact HB.out)⟩⟩
               · rw [if_neg c14] at H
                 exact absurd H (by simp)
             · rw [if_neg c13] at H
               exact absurd H (by simp)
           · rw [if_neg c12] at H
             exact absurd H (by simp)
         · rw [if_neg c11] at H
           exact absurd H (by simp)
       · rw [if_neg c10] at H
         exact absurd H (by simp)
     · rw [if_neg c8] at H
       exact absurd H (by simp)
end Go.Proofs.YtldaingkcnmaoaaDoor.X
