-- Made smaller by wip/squeeze.py out of this claim's texts. Not trusted: Lean checks it.
import Derived.Test.YtldaingkcnmaoaaDoorX19
import Derived.Test.YtldaingkcnmaoaaDoorX20
set_option linter.unusedVariables false
set_option linter.unusedSimpArgs false
namespace Go.Proofs.YtldaingkcnmaoaaDoor.X
open Go.RowKit Go.Proofs.YtldaingkcnmaoaaDoorW.PrintWords Go.Proofs.YtldaingkcnmaoaaDoorW.PrintLast Go.Proofs.YtldaingkcnmaoaaDoorW.PrintMore
attribute [local go_sem] max2_int min2_int max_two min_two max_three min_three max_four min_four
def bodiesL : List (List UInt8) := [[], [111, 110, 101], [116, 119, 111], [71, 69, 84, 32, 47, 104, 101, 97, 108, 116, 104, 32, 104, 101, 97, 108, 116, 104, 10, 80, 85, 84, 32, 47, 107, 118, 47, 58, 107, 32, 112, 117, 116, 10, 71, 69, 84, 32, 47, 107, 118, 47, 58, 107, 32, 103, 101, 116, 10, 80, 79, 83, 84, 32, 47, 97, 100, 109, 105, 110, 47, 114, 111, 117, 116, 101, 115, 32, 114, 101, 108, 111, 97, 100, 10], [71, 69, 84, 32, 47, 97, 47, 58, 120, 32, 103, 101, 116, 10, 71, 69, 84, 32, 47, 97, 47, 58, 121, 32, 112, 117, 116, 10], [106, 117, 110, 107], [], [80, 79, 83, 84, 32, 47, 97, 100, 109, 105, 110, 47, 114, 111, 117, 116, 101, 115, 32, 114, 101, 108, 111, 97, 100, 10, 80, 79, 83, 84, 32, 47, 97, 100, 109, 105, 110, 47, 115, 116, 111, 112, 32, 115, 104, 117, 116, 100, 111, 119, 110, 10, 71, 69, 84, 32, 47, 107, 118, 47, 58, 107, 101, 121, 32, 103, 101, 116, 10, 71, 69, 84, 32, 47, 42, 97, 108, 108, 32, 108, 105, 115, 116, 10, 80, 85, 84, 32, 47, 107, 118, 47, 58, 107, 101, 121, 32, 112, 117, 116, 10]]
def targetsL : List (List UInt8) := [[47, 104, 101, 97, 108, 116, 104], [47, 107, 118, 47, 97], [47, 107, 118, 47, 98], [47, 107, 118, 47, 99, 37, 50, 48, 100], [47, 108, 105, 115, 116, 47], [47, 108, 105, 115, 116, 47, 97], [47, 119, 97, 108, 107, 47, 70, 76, 70], [47, 119, 97, 108, 107, 47, 120], [47, 97, 100, 109, 105, 110, 47, 114, 111, 117, 116, 101, 115], [47, 97, 100, 109, 105, 110, 47, 115, 116, 111, 112], [47, 110, 111, 112, 101], [47, 107, 118], [47, 107, 118, 47, 97], [47, 107, 118, 47, 98, 63, 120], [47, 107, 118, 47, 37, 122, 122], [47]]
def methodsL : List (List UInt8) := [[71, 69, 84], [80, 85, 84], [80, 79, 83, 84], [68, 69, 76, 69, 84, 69], [71, 69, 84], [72, 69, 65, 68]]
structure GlobOK (w : World) : Prop where
  b : ∀ (i : Nat) (l : List UInt8), bodiesL[i]? = some l → w.cell? ⟨0, i, none⟩ = some (.string ⟨l.toArray⟩)
  t : ∀ (i : Nat) (l : List UInt8), targetsL[i]? = some l → w.cell? ⟨1, i, none⟩ = some (.string ⟨l.toArray⟩)
  m : ∀ (i : Nat) (l : List UInt8), methodsL[i]? = some l → w.cell? ⟨2, i, none⟩ = some (.string ⟨l.toArray⟩)
theorem GlobOK.below {B : Nat} {w w' : World} (h : GlobOK w) (hb : Below B w w') (hB : B = w.heap.size) : GlobOK w' := by
  subst hB
  exact ⟨fun i l e => pw_cell_below hb (h.b i l e), fun i l e => pw_cell_below hb (h.t i l e), fun i l e => pw_cell_below hb (h.m i l e)⟩
def strAt (L : List (List UInt8)) (i : Int) : ByteArray := ⟨(L.getD i.toNat []).toArray⟩
theorem strAt_some (L : List (List UInt8)) (i : Nat) (h : i < L.length) : ∃ l, L[i]? = some l ∧ strAt L (i : Int) = ⟨l.toArray⟩ := ⟨L[i], List.getElem?_eq_getElem h, by simp [strAt, h]⟩
theorem strAt_size (L : List (List UInt8)) (n : Nat) (h : ∀ l ∈ L, l.length ≤ n) (i : Int) : (strAt L i).size ≤ n := by
  unfold strAt
  show (L.getD i.toNat []).toArray.size ≤ n
  rw [List.size_toArray]
  by_cases hi : i.toNat < L.length
  · rw [List.getD_eq_getElem?_getD, List.getElem?_eq_getElem hi]; exact h _ (List.getElem_mem hi)
  · rw [List.getD_eq_getElem?_getD, List.getElem?_eq_none (by omega)]; exact Nat.zero_le _
def seedB (a0_2 : Int) : ByteArray := strAt bodiesL (Go.bits .and .i64 a0_2 7)
def seedM (a0_0 : Int) : ByteArray := strAt methodsL (Int.tmod (Go.bits .and .i64 a0_0 255) 6)
def seedT (a0_1 : Int) : ByteArray := strAt targetsL (Go.bits .and .i64 a0_1 15)
def tokS (i : Int) : ByteArray := if i = 3 then (⟨#[117]⟩ : ByteArray) else (⟨#[116]⟩ : ByteArray)
def seedH1 (a0_0 a0_1 : Int) : ByteArray := ((seedM a0_0 ++ (⟨#[32]⟩ : ByteArray)) ++ seedT a0_1) ++ (⟨#[32, 72, 84, 84, 80, 47, 49, 46, 49, 13, 10, 72, 111, 115, 116, 58, 32, 104, 13, 10]⟩ : ByteArray)
def seedH2 (a0_0 a0_1 a0_3 : Int) : ByteArray := if Go.bits .and .i64 a0_3 3 > 0 then seedH1 a0_0 a0_1 ++ (((⟨#[84, 111, 107, 101, 110, 58, 32]⟩ : ByteArray) ++ tokS (Go.bits .and .i64 a0_3 3)) ++ (⟨#[13, 10]⟩ : ByteArray)) else seedH1 a0_0 a0_1
def seedH (a0_0 a0_1 a0_3 : Int) (a0_5 : Bool) : ByteArray := if a0_5 = true then seedH2 a0_0 a0_1 a0_3 ++ (⟨#[67, 111, 110, 110, 101, 99, 116, 105, 111, 110, 58, 32, 99, 108, 111, 115, 101, 13, 10]⟩ : ByteArray) else seedH2 a0_0 a0_1 a0_3
def seedEnd (k : Nat) (H b : ByteArray) (wr ch : Int) : Option ByteArray :=
  if wr = 1 then some (H ++ (⟨#[66, 97, 100, 13, 10, 13, 10]⟩ : ByteArray))
  else if wr = 2 then some (H ++ (⟨#[67, 111, 110, 116, 101, 110, 116, 45, 76, 101, 110, 103, 116, 104, 58, 32, 57, 57, 57, 13, 10, 13, 10]⟩ : ByteArray))
  else if wr = 3 then some (H ++ (⟨#[84, 114, 97, 110, 115, 102, 101, 114, 45, 69, 110, 99, 111, 100, 105, 110, 103, 58, 32, 103, 122, 105, 112, 13, 10, 13, 10]⟩ : ByteArray))
  else if ch > 0 then (body_Chunks.f k b ch).bind fun c => if c.size ≤ 1000000 then some ((H ++ (⟨#[84, 114, 97, 110, 115, 102, 101, 114, 45, 69, 110, 99, 111, 100, 105, 110, 103, 58, 32, 99, 104, 117, 110, 107, 101, 100, 13, 10, 13, 10]⟩ : ByteArray)) ++ c) else none
  else if b.size = 0 then some (H ++ (⟨#[13, 10]⟩ : ByteArray))
  else (crossroadlaw04_digits.f k (b.size : Int)).bind fun d => if d.size ≤ 1000000 then some ((((H ++ (⟨#[67, 111, 110, 116, 101, 110, 116, 45, 76, 101, 110, 103, 116, 104, 58, 32]⟩ : ByteArray)) ++ d) ++ (⟨#[13, 10, 13, 10]⟩ : ByteArray)) ++ b) else none
def crossroadlaw04_Seed_Text.f (k : Nat) (a0_0 a0_1 a0_2 a0_3 a0_4 : Int) (a0_5 : Bool) (a0_6 : Int) : Option ByteArray := seedEnd k (seedH a0_0 a0_1 a0_3 a0_5) (seedB a0_2) (Go.bits .and .i64 a0_6 15) (Go.bits .and .i64 a0_4 3)
theorem seedEnd_mono (k : Nat) (H b : ByteArray) (wr ch : Int) : LeO (seedEnd k H b wr ch) (seedEnd (k + 1) H b wr ch) := by
  unfold seedEnd
  exact LeO.ite (LeO.refl _) (LeO.ite (LeO.refl _) (LeO.ite (LeO.refl _) (LeO.ite (LeO.bind (body_Chunks.mono _ _ _) (fun _ => LeO.refl _)) (LeO.ite (LeO.refl _) (LeO.bind (crossroadlaw04_digits.mono_l _ _) (fun _ => LeO.refl _))))))
theorem crossroadlaw04_Seed_Text.mono : ∀ a0_0 a0_1 a0_2 a0_3 a0_4 a0_5 a0_6 k, LeO (crossroadlaw04_Seed_Text.f k a0_0 a0_1 a0_2 a0_3 a0_4 a0_5 a0_6) (crossroadlaw04_Seed_Text.f (k + 1) a0_0 a0_1 a0_2 a0_3 a0_4 a0_5 a0_6) := fun _ _ _ _ _ _ _ k => seedEnd_mono k _ _ _ _
theorem i64_land3 (n : Int) : Go.bits .and .i64 n 3 = n % 4 := by
  have hm : (BitVec.ofInt 64 3).toNat = 2 ^ 2 - 1 := by decide
  have key : (BitVec.ofInt 64 n &&& BitVec.ofInt 64 3).toNat = (n % ((2 ^ 64 : Nat) : Int)).toNat % 2 ^ 2 := by
    rw [BitVec.toNat_and, BitVec.toNat_ofInt, hm, Nat.and_two_pow_sub_one_eq_mod]
  show IntKind.i64.wrap ((BitVec.ofInt 64 n &&& BitVec.ofInt 64 3).toNat : Nat) = n % 4
  rw [key, IntKind.wrap_i64]
  omega
theorem i64_land7 (n : Int) : Go.bits .and .i64 n 7 = n % 8 := by
  have hm : (BitVec.ofInt 64 7).toNat = 2 ^ 3 - 1 := by decide
  have key : (BitVec.ofInt 64 n &&& BitVec.ofInt 64 7).toNat = (n % ((2 ^ 64 : Nat) : Int)).toNat % 2 ^ 3 := by
    rw [BitVec.toNat_and, BitVec.toNat_ofInt, hm, Nat.and_two_pow_sub_one_eq_mod]
  show IntKind.i64.wrap ((BitVec.ofInt 64 n &&& BitVec.ofInt 64 7).toNat : Nat) = n % 8
  rw [key, IntKind.wrap_i64]
  omega
theorem i64_land15 (n : Int) : Go.bits .and .i64 n 15 = n % 16 := by
  have hm : (BitVec.ofInt 64 15).toNat = 2 ^ 4 - 1 := by decide
  have key : (BitVec.ofInt 64 n &&& BitVec.ofInt 64 15).toNat = (n % ((2 ^ 64 : Nat) : Int)).toNat % 2 ^ 4 := by
    rw [BitVec.toNat_and, BitVec.toNat_ofInt, hm, Nat.and_two_pow_sub_one_eq_mod]
  show IntKind.i64.wrap ((BitVec.ofInt 64 n &&& BitVec.ofInt 64 15).toNat : Nat) = n % 16
  rw [key, IntKind.wrap_i64]
  omega
theorem i64_land255 (n : Int) : Go.bits .and .i64 n 255 = n % 256 := by
  have hm : (BitVec.ofInt 64 255).toNat = 2 ^ 8 - 1 := by decide
  have key : (BitVec.ofInt 64 n &&& BitVec.ofInt 64 255).toNat = (n % ((2 ^ 64 : Nat) : Int)).toNat % 2 ^ 8 := by
    rw [BitVec.toNat_and, BitVec.toNat_ofInt, hm, Nat.and_two_pow_sub_one_eq_mod]
  show IntKind.i64.wrap ((BitVec.ofInt 64 n &&& BitVec.ofInt 64 255).toNat : Nat) = n % 256
  rw [key, IntKind.wrap_i64]
  omega
theorem and7_lt (n : Int) : ∃ i : Nat, Go.bits .and .i64 n 7 = (i : Int) ∧ i < 8 := by
  rw [i64_land7]
  exact ⟨(n % 8).toNat, by omega, by omega⟩
theorem and15_lt (n : Int) : ∃ i : Nat, Go.bits .and .i64 n 15 = (i : Int) ∧ i < 16 := by
  rw [i64_land15]
  exact ⟨(n % 16).toNat, by omega, by omega⟩
theorem and3_lt (n : Int) : ∃ i : Nat, Go.bits .and .i64 n 3 = (i : Int) ∧ i < 4 := by
  rw [i64_land3]
  exact ⟨(n % 4).toNat, by omega, by omega⟩
theorem mod6_lt (n : Int) : ∃ i : Nat, Int.tmod (Go.bits .and .i64 n 255) 6 = (i : Int) ∧ i < 6 := by
  rw [i64_land255, Int.tmod_eq_emod_of_nonneg (by omega)]
  exact ⟨(n % 256 % 6).toNat, by omega, by omega⟩
theorem tok_ix1 (W : World) : (Instr.index 54 (.agg #[.string ⟨#[]⟩, .string ⟨#[116]⟩, .string ⟨#[116]⟩, .string ⟨#[117]⟩]) (.int .i64 1)).run Tryd.prog W = .ok (.string ⟨#[116]⟩) W := by kernel_rfl
theorem tok_ix2 (W : World) : (Instr.index 54 (.agg #[.string ⟨#[]⟩, .string ⟨#[116]⟩, .string ⟨#[116]⟩, .string ⟨#[117]⟩]) (.int .i64 2)).run Tryd.prog W = .ok (.string ⟨#[116]⟩) W := by kernel_rfl
theorem tok_ix3 (W : World) : (Instr.index 54 (.agg #[.string ⟨#[]⟩, .string ⟨#[116]⟩, .string ⟨#[116]⟩, .string ⟨#[117]⟩]) (.int .i64 3)).run Tryd.prog W = .ok (.string ⟨#[117]⟩) W := by kernel_rfl
theorem cell_drew {w : World} {p : Addr} {v : Value} (h : w.cell? p = some v) : w.drew.cell? p = some v := by
  have := pw_cell_below (below_drew (Below.refl w.heap.size w)) h
  exact this
theorem bodies_size (i : Int) : (strAt bodiesL i).size ≤ 200 := strAt_size _ _ (by decide) i
theorem methods_size (i : Int) : (strAt methodsL i).size ≤ 10 := strAt_size _ _ (by decide) i
theorem targets_size (i : Int) : (strAt targetsL i).size ≤ 20 := strAt_size _ _ (by decide) i
theorem seedH1_size (a0_0 a0_1 : Int) : (seedH1 a0_0 a0_1).size ≤ 60 := by
  have h1 := methods_size (Int.tmod (Go.bits .and .i64 a0_0 255) 6)
  have h2 := targets_size (Go.bits .and .i64 a0_1 15)
  unfold seedH1 seedM seedT
  simp only [ByteArray.size_append]
  have e1 : (⟨#[32]⟩ : ByteArray).size = 1 := rfl
  have e2 : (⟨#[32, 72, 84, 84, 80, 47, 49, 46, 49, 13, 10, 72, 111, 115, 116, 58, 32, 104, 13, 10]⟩ : ByteArray).size = 20 := rfl
  omega
theorem seedH2_size (a0_0 a0_1 a0_3 : Int) : (seedH2 a0_0 a0_1 a0_3).size ≤ 80 := by
  have h1 := seedH1_size a0_0 a0_1
  unfold seedH2
  split
  · simp only [ByteArray.size_append]
    have e1 : (⟨#[84, 111, 107, 101, 110, 58, 32]⟩ : ByteArray).size = 7 := rfl
    have e2 : (⟨#[13, 10]⟩ : ByteArray).size = 2 := rfl
    have e3 : (tokS (Go.bits .and .i64 a0_3 3)).size = 1 := by unfold tokS; split <;> rfl
    omega
  · omega
theorem seedH_size (a0_0 a0_1 a0_3 : Int) (a0_5 : Bool) : (seedH a0_0 a0_1 a0_3 a0_5).size ≤ 100 := by
  have h1 := seedH2_size a0_0 a0_1 a0_3
  unfold seedH
  split
  · simp only [ByteArray.size_append]
    have e1 : (⟨#[67, 111, 110, 110, 101, 99, 116, 105, 111, 110, 58, 32, 99, 108, 111, 115, 101, 13, 10]⟩ : ByteArray).size = 19 := rfl
    omega
  · omega
theorem str_empty {s : ByteArray} (h : s.size = 0) : s.toList.isEmpty = true := by
  rw [Lib.toList_data]
  cases s with
  | mk d => simp [ByteArray.size] at h; simp [h]
theorem str_some {s : ByteArray} (h : ¬ s.size = 0) : s.toList.isEmpty = false := by
  rw [Lib.toList_data]
  cases s with
  | mk d => simp [ByteArray.size] at h; simpa using h
set_option maxHeartbeats 16000000 in
set_option maxRecDepth 100000 in
theorem crossroadlaw04_Seed_Text.calls (k : Nat) (a0_0 a0_1 a0_2 a0_3 a0_4 : Int) (a0_5 : Bool) (a0_6 : Int) (r : ByteArray) (w : World) (h : crossroadlaw04_Seed_Text.f k a0_0 a0_1 a0_2 a0_3 a0_4 a0_5 a0_6 = some r) (hG : GlobOK w) :
    Calls Tryd.prog 10 #[.agg #[.int .i64 a0_0, .int .i64 a0_1, .int .i64 a0_2, .int .i64 a0_3, .int .i64 a0_4, .bool a0_5, .int .i64 a0_6]] w fun e w' => e = .returned (.string r) ∧ Below w.heap.size w w' := by
  unfold crossroadlaw04_Seed_Text.f at h
  have HF := Aside0.mk h
  have HG := Aside0.mk hG
  obtain ⟨ib, hb7, hib⟩ := and7_lt a0_2
  obtain ⟨bl, hbl, hbe⟩ := strAt_some bodiesL ib hib
  obtain ⟨it, ht15, hit⟩ := and15_lt a0_1
  obtain ⟨tl, htl, hte⟩ := strAt_some targetsL it hit
  obtain ⟨im, hm6, him⟩ := mod6_lt a0_0
  obtain ⟨ml, hml, hme⟩ := strAt_some methodsL im him
  have HBL := Aside0.mk (bodies_size (Go.bits .and .i64 a0_2 7))
  have HML := Aside0.mk (methods_size (Int.tmod (Go.bits .and .i64 a0_0 255) 6))
  have HTL := Aside0.mk (targets_size (Go.bits .and .i64 a0_1 15))
  have HHL := Aside0.mk (seedH1_size a0_0 a0_1)
  obtain ⟨Bt, hBt⟩ : ∃ Bt, Bt = seedB a0_2 := ⟨_, rfl⟩
  obtain ⟨M, hM⟩ : ∃ M, M = seedM a0_0 := ⟨_, rfl⟩
  obtain ⟨T, hT⟩ : ∃ T, T = seedT a0_1 := ⟨_, rfl⟩
  have HBl := Aside0.mk hbl
  have HTl := Aside0.mk htl
  have HMl := Aside0.mk hml
  have HBe := Aside0.mk (show (⟨bl.toArray⟩ : ByteArray) = Bt by rw [hBt, seedB, hb7, hbe])
  have HTe := Aside0.mk (show (⟨tl.toArray⟩ : ByteArray) = T by rw [hT, seedT, ht15, hte])
  have HMe := Aside0.mk (show (⟨ml.toArray⟩ : ByteArray) = M by rw [hM, seedM, hm6, hme])
  have HBt := Aside0.mk hBt
  have HM := Aside0.mk hM
  have HT := Aside0.mk hT
  have HH1 := Aside0.mk (show ((M ++ (⟨#[32]⟩ : ByteArray)) ++ T) ++ (⟨#[32, 72, 84, 84, 80, 47, 49, 46, 49, 13, 10, 72, 111, 115, 116, 58, 32, 104, 13, 10]⟩ : ByteArray) = seedH1 a0_0 a0_1 by rw [hM, hT]; rfl)
  have hMs : M.size ≤ 10 := by rw [hM]; exact HML.out
  have hTs : T.size ≤ 20 := by rw [hT]; exact HTL.out
  have hBs : Bt.size ≤ 200 := by rw [hBt]; exact HBL.out
  have hib2 : (ib : Int) < 8 := by omega
  have hit2 : (it : Int) < 16 := by omega
  have him2 : (im : Int) < 6 := by omega
  have q0 : (9223372036854775807 < M.size + 1) = False := eq_false (by omega)
  have q1 : (9223372036854775807 < M.size + 1 + T.size) = False := eq_false (by omega)
  have q2 : (9223372036854775807 < M.size + 1 + T.size + 20) = False := eq_false (by omega)
  clear h hG hbl hbe htl hte hml hme hBt hM hT
  go_enter Tryd.func10, Tryd.ntmps10
  go_wp2_with ((with_reducible refine gate_dst (N := 1) rfl ?_); refine box_event ?hg (N := 1) ?hd (cs := #[.int .i64 a0_0, .int .i64 a0_1, .int .i64 a0_2, .int .i64 a0_3, .int .i64 a0_4, .bool a0_5, .int .i64 a0_6]) (t := 23) ?hr ?_; (case hd => rfl); (case hg => rfl); (case hr => first | (go_simp; done) | (go_simp; rfl)); intro gb hg w1 hbox hb; have HB := Lib.hid hb; have HX := Lib.hid hbox; have HG1 := Lib.hid (GlobOK.below HG.out hb rfl); have y0 : w1.cell? ⟨gb, 0, none⟩ = some (.int .i64 a0_0) := (blk_cell hbox 0).trans rfl; have y1 : w1.cell? ⟨gb, 1, none⟩ = some (.int .i64 a0_1) := (blk_cell hbox 1).trans rfl; have y2 : w1.cell? ⟨gb, 2, none⟩ = some (.int .i64 a0_2) := (blk_cell hbox 2).trans rfl; have y3 : w1.cell? ⟨gb, 3, none⟩ = some (.int .i64 a0_3) := (blk_cell hbox 3).trans rfl; have y4 : w1.cell? ⟨gb, 4, none⟩ = some (.int .i64 a0_4) := (blk_cell hbox 4).trans rfl; have y5 : w1.cell? ⟨gb, 5, none⟩ = some (.bool a0_5) := (blk_cell hbox 5).trans rfl; have y6 : w1.cell? ⟨gb, 6, none⟩ = some (.int .i64 a0_6) := (blk_cell hbox 6).trans rfl; have cb : w1.cell? ⟨0, ib, none⟩ = some (.string Bt) := (HG1.out.b ib _ HBl.out).trans (by rw [HBe.out]); have cm : w1.cell? ⟨2, im, none⟩ = some (.string M) := (HG1.out.m im _ HMl.out).trans (by rw [HMe.out]); have ct : w1.cell? ⟨1, it, none⟩ = some (.string T) := (HG1.out.t it _ HTl.out).trans (by rw [HTe.out]); clear hg hbox hb)
  refine start_ (n := 15) (S := fun w' => w'.cell? ⟨gb, 0, none⟩ = some (.int .i64 a0_0) ∧ w'.cell? ⟨gb, 1, none⟩ = some (.int .i64 a0_1) ∧ w'.cell? ⟨2, im, none⟩ = some (.string M) ∧ w'.cell? ⟨1, it, none⟩ = some (.string T)) (ds := []) #[false, false, false, false, false, false, false, false, false, false, false, false, false, false, false] (by kernel_rfl) rfl rfl ⟨cell_drew y0, cell_drew y1, cell_drew cm, cell_drew ct⟩ (fun hHeld => ?_)
  refine pure_ (i := 0) (N := some 10) (v := ?_) (a' := ?_) #[true, false, false, false, false, false, false, false, false, false, false, false, false, false, false] rfl rfl (by kernel_rfl) (fun _ _ _ h => h) (Or.inl ⟨by rfl, ?_⟩) ?_ ?_
  rotate_left
  · intro w'
    go_simp
    with_reducible rfl
  rotate_left
  · simp only [Act.put, List.setIfInBounds_toArray, List.set_cons_zero, List.set_cons_succ, i64_w, i32_w]
    rfl
  refine pure_ (i := 7) (N := some 17) (v := ?_) (a' := ?_) #[true, false, false, false, false, false, false, true, false, false, false, false, false, false, false] rfl rfl (by kernel_rfl) (fun _ _ _ h => h) (Or.inl ⟨by rfl, ?_⟩) ?_ ?_
  rotate_left
  · intro w'
    go_simp
    with_reducible rfl
  rotate_left
  · simp only [Act.put, List.setIfInBounds_toArray, List.set_cons_zero, List.set_cons_succ, i64_w, i32_w]
    rfl
  refine take_ (i := 1) (N := some 11) (v := ?_) (a' := ?_) #[true, true, false, false, false, false, false, true, false, false, false, false, false, false, false] rfl rfl (by kernel_rfl) (fun _ _ _ h => h) (Or.inl ⟨by rfl, ?_⟩) hHeld ?_ ?_
  rotate_left
  · rintro w' ⟨s0, s1, s2, s3⟩
    go_simp
    with_reducible rfl
  rotate_left
  · simp only [Act.put, List.setIfInBounds_toArray, List.set_cons_zero, List.set_cons_succ, i64_w, i32_w]
    rfl
  refine pure_ (i := 2) (N := some 12) (v := ?_) (a' := ?_) #[true, true, true, false, false, false, false, true, false, false, false, false, false, false, false] rfl rfl (by kernel_rfl) (fun _ _ _ h => h) (Or.inl ⟨by rfl, ?_⟩) ?_ ?_
  rotate_left
  · intro w'
    go_simp
    with_reducible rfl
  rotate_left
  · simp only [Act.put, List.setIfInBounds_toArray, List.set_cons_zero, List.set_cons_succ, i64_w, i32_w]
    rfl
  refine pure_ (i := 3) (N := some 13) (v := ?_) (a' := ?_) #[true, true, true, true, false, false, false, true, false, false, false, false, false, false, false] rfl rfl (by kernel_rfl) (fun _ _ _ h => h) (Or.inl ⟨by rfl, ?_⟩) ?_ ?_
  rotate_left
  · intro w'
    go_simp
    with_reducible rfl
  rotate_left
  · simp only [Act.put, List.setIfInBounds_toArray, List.set_cons_zero, List.set_cons_succ, i64_w, i32_w]
    rfl
  refine pure_ (i := 4) (N := some 14) (v := ?_) (a' := ?_) #[true, true, true, true, true, false, false, true, false, false, false, false, false, false, false] rfl rfl (by kernel_rfl) (fun _ _ _ h => h) (Or.inl ⟨by rfl, ?_⟩) ?_ ?_
  rotate_left
  · intro w'
    go_simp
    with_reducible rfl
  rotate_left
  · simp only [Act.put, List.setIfInBounds_toArray, List.set_cons_zero, List.set_cons_succ, i64_w, i32_w]
    rfl
  refine take_ (i := 5) (N := some 15) (v := ?_) (a' := ?_) #[true, true, true, true, true, true, false, true, false, false, false, false, false, false, false] rfl rfl (by kernel_rfl) (fun _ _ _ h => h) (Or.inl ⟨by rfl, ?_⟩) hHeld ?_ ?_
  rotate_left
  · rintro w' ⟨s0, s1, s2, s3⟩
    go_simp
    with_reducible rfl
  rotate_left
  · simp only [Act.put, List.setIfInBounds_toArray, List.set_cons_zero, List.set_cons_succ, i64_w, i32_w]
    rfl
  refine pure_ (i := 6) (N := some 16) (v := ?_) (a' := ?_) #[true, true, true, true, true, true, true, true, false, false, false, false, false, false, false] rfl rfl (by kernel_rfl) (fun _ _ _ h => h) (Or.inl ⟨by rfl, ?_⟩) ?_ ?_
  rotate_left
  · intro w'
    go_simp
    with_reducible rfl
  rotate_left
  · simp only [Act.put, List.setIfInBounds_toArray, List.set_cons_zero, List.set_cons_succ, i64_w, i32_w]
    rfl
  refine take_ (i := 8) (N := some 18) (v := ?_) (a' := ?_) #[true, true, true, true, true, true, true, true, true, false, false, false, false, false, false] rfl rfl (by kernel_rfl) (fun _ _ _ h => h) (Or.inl ⟨by rfl, ?_⟩) hHeld ?_ ?_
  rotate_left
  · rintro w' ⟨s0, s1, s2, s3⟩
    go_simp
    with_reducible rfl
  rotate_left
  · simp only [Act.put, List.setIfInBounds_toArray, List.set_cons_zero, List.set_cons_succ, i64_w, i32_w]
    rfl
  refine pure_ (i := 9) (N := some 19) (v := ?_) (a' := ?_) #[true, true, true, true, true, true, true, true, true, true, false, false, false, false, false] rfl rfl (by kernel_rfl) (fun _ _ _ h => h) (Or.inl ⟨by rfl, ?_⟩) ?_ ?_
  rotate_left
  · intro w'
    go_simp
    with_reducible rfl
  rotate_left
  · simp only [Act.put, List.setIfInBounds_toArray, List.set_cons_zero, List.set_cons_succ, i64_w, i32_w]
    rfl
  refine pure_ (i := 10) (N := some 20) (v := ?_) (a' := ?_) #[true, true, true, true, true, true, true, true, true, true, true, false, false, false, false] rfl rfl (by kernel_rfl) (fun _ _ _ h => h) (Or.inl ⟨by rfl, ?_⟩) ?_ ?_
  rotate_left
  · intro w'
    go_simp
    with_reducible rfl
  rotate_left
  · simp only [Act.put, List.setIfInBounds_toArray, List.set_cons_zero, List.set_cons_succ, i64_w, i32_w]
    rfl
  refine take_ (i := 11) (N := some 21) (v := ?_) (a' := ?_) #[true, true, true, true, true, true, true, true, true, true, true, true, false, false, false] rfl rfl (by kernel_rfl) (fun _ _ _ h => h) (Or.inl ⟨by rfl, ?_⟩) hHeld ?_ ?_
  rotate_left
  · rintro w' ⟨s0, s1, s2, s3⟩
    go_simp
    with_reducible rfl
  rotate_left
  · simp only [Act.put, List.setIfInBounds_toArray, List.set_cons_zero, List.set_cons_succ, i64_w, i32_w]
    rfl
  refine pure_ (i := 12) (N := some 22) (v := ?_) (a' := ?_) #[true, true, true, true, true, true, true, true, true, true, true, true, true, false, false] rfl rfl (by kernel_rfl) (fun _ _ _ h => h) (Or.inl ⟨by rfl, ?_⟩) ?_ ?_
  rotate_left
  · intro w'
    go_simp
    with_reducible rfl
  rotate_left
  · simp only [Act.put, List.setIfInBounds_toArray, List.set_cons_zero, List.set_cons_succ, i64_w, i32_w]
    rfl
  refine pure_ (i := 13) (N := some 23) (v := ?_) (a' := ?_) #[true, true, true, true, true, true, true, true, true, true, true, true, true, true, false] rfl rfl (by kernel_rfl) (fun _ _ _ h => h) (Or.inl ⟨by rfl, ?_⟩) ?_ ?_
  rotate_left
  · intro w'
    go_simp
    with_reducible rfl
  rotate_left
  · simp only [Act.put, List.setIfInBounds_toArray, List.set_cons_zero, List.set_cons_succ, i64_w, i32_w]
    rfl
  refine pure_ (i := 14) (N := some 4) (v := ?_) (a' := ?_) #[true, true, true, true, true, true, true, true, true, true, true, true, true, true, true] rfl rfl (by kernel_rfl) (fun _ _ _ h => h) (Or.inl ⟨by rfl, ?_⟩) ?_ ?_
  rotate_left
  · intro w'
    go_simp
    with_reducible rfl
  rotate_left
  · simp only [Act.put, List.setIfInBounds_toArray, List.set_cons_zero, List.set_cons_succ, i64_w, i32_w]
    rfl
  refine done_ (by kernel_rfl) ?_
  rw [HH1.out]
  clear q0 q1 q2 HH1 hMs hTs hib2 hit2 him2 hb7 ht15 hm6
  have hXs : (seedH1 a0_0 a0_1).size ≤ 60 := HHL.out
  have HXd := Aside0.mk (blk_drew HX.out)
  have HBd := Aside0.mk (below_drew HB.out)
  go_upto_if 27 with (fail)
  go_cut [4] (fun v4 wc => v4 = .string (seedH2 a0_0 a0_1 a0_3) ∧ Aside0 (wc.heap[gb]? = some (.cells #[.int .i64 a0_0, .int .i64 a0_1, .int .i64 a0_2, .int .i64 a0_3, .int .i64 a0_4, .bool a0_5, .int .i64 a0_6] 23 (0, 0))) ∧ Aside0 (Below w.heap.size w wc))
  case first =>
    obtain ⟨tk, htk, htk4⟩ := and3_lt a0_3
    have y3' := cell_drew y3
    have htk5 : tk = 0 ∨ tk = 1 ∨ tk = 2 ∨ tk = 3 := by omega
    rcases htk5 with rfl | rfl | rfl | rfl
    · have e3 : Go.bits .and .i64 a0_3 3 = 0 := htk
      have HS2 := Aside0.mk (show seedH1 a0_0 a0_1 = seedH2 a0_0 a0_1 a0_3 by rw [seedH2, e3, if_neg (by decide)])
      clear htk htk4
      rw [e3]
      go_wp2
      go_meet
      case rel => exact ⟨by rw [← HS2.out], HXd, HBd⟩
    · have e3 : Go.bits .and .i64 a0_3 3 = 1 := htk
      have HS2 := Aside0.mk (show seedH1 a0_0 a0_1 ++ (((⟨#[84, 111, 107, 101, 110, 58, 32]⟩ : ByteArray) ++ (⟨#[116]⟩ : ByteArray)) ++ (⟨#[13, 10]⟩ : ByteArray)) = seedH2 a0_0 a0_1 a0_3 by rw [seedH2, e3, if_pos (by decide)]; rfl)
      have hx := tok_ix1
      have q0 : (9223372036854775807 < (seedH1 a0_0 a0_1).size + 10) = False := eq_false (by omega)
      clear htk htk4
      rw [e3]
      go_wp2
      go_meet
      case rel => exact ⟨by rw [← HS2.out], HXd, HBd⟩
    · have e3 : Go.bits .and .i64 a0_3 3 = 2 := htk
      have HS2 := Aside0.mk (show seedH1 a0_0 a0_1 ++ (((⟨#[84, 111, 107, 101, 110, 58, 32]⟩ : ByteArray) ++ (⟨#[116]⟩ : ByteArray)) ++ (⟨#[13, 10]⟩ : ByteArray)) = seedH2 a0_0 a0_1 a0_3 by rw [seedH2, e3, if_pos (by decide)]; rfl)
      have hx := tok_ix2
      have q0 : (9223372036854775807 < (seedH1 a0_0 a0_1).size + 10) = False := eq_false (by omega)
      clear htk htk4
      rw [e3]
      go_wp2
      go_meet
      case rel => exact ⟨by rw [← HS2.out], HXd, HBd⟩
    · have e3 : Go.bits .and .i64 a0_3 3 = 3 := htk
      have HS2 := Aside0.mk (show seedH1 a0_0 a0_1 ++ (((⟨#[84, 111, 107, 101, 110, 58, 32]⟩ : ByteArray) ++ (⟨#[117]⟩ : ByteArray)) ++ (⟨#[13, 10]⟩ : ByteArray)) = seedH2 a0_0 a0_1 a0_3 by rw [seedH2, e3, if_pos (by decide)]; rfl)
      have hx := tok_ix3
      have q0 : (9223372036854775807 < (seedH1 a0_0 a0_1).size + 10) = False := eq_false (by omega)
      clear htk htk4
      rw [e3]
      go_wp2
      go_meet
      case rel => exact ⟨by rw [← HS2.out], HXd, HBd⟩
  case rest =>
    obtain ⟨rfl, HX2, HB2⟩ := hcut
    clear hXs HXd HBd HX HB y0 y1 y2 y3 y4 y5 y6 cb cm ct
    have y4 := (blk_cell HX2.out 4).trans (show _ = some (.int .i64 a0_4) from rfl)
    have y5 := (blk_cell HX2.out 5).trans (show _ = some (.bool a0_5) from rfl)
    have y6 := (blk_cell HX2.out 6).trans (show _ = some (.int .i64 a0_6) from rfl)
    have hXs : (seedH2 a0_0 a0_1 a0_3).size ≤ 80 := seedH2_size _ _ _
    go_upto_if 38 with (fail)
    go_cut [4] (fun v4 wc => v4 = .string (seedH a0_0 a0_1 a0_3 a0_5) ∧ Aside0 (wc.heap[gb]? = some (.cells #[.int .i64 a0_0, .int .i64 a0_1, .int .i64 a0_2, .int .i64 a0_3, .int .i64 a0_4, .bool a0_5, .int .i64 a0_6] 23 (0, 0))) ∧ Aside0 (Below w.heap.size w wc))
    case first =>
      cases a0_5 with
      | false =>
        have HS := Aside0.mk (show seedH2 a0_0 a0_1 a0_3 = seedH a0_0 a0_1 a0_3 false by rw [seedH, if_neg (by decide)])
        go_wp2
        go_meet
        case rel => exact ⟨by rw [← HS.out], HX2, HB2⟩
      | true =>
        have HS := Aside0.mk (show seedH2 a0_0 a0_1 a0_3 ++ (⟨#[67, 111, 110, 110, 101, 99, 116, 105, 111, 110, 58, 32, 99, 108, 111, 115, 101, 13, 10]⟩ : ByteArray) = seedH a0_0 a0_1 a0_3 true by rw [seedH, if_pos rfl])
        have q0 : (9223372036854775807 < (seedH2 a0_0 a0_1 a0_3).size + 19) = False := eq_false (by omega)
        go_wp2
        go_meet
        case rel => exact ⟨by rw [← HS.out], HX2, HB2⟩
    case rest =>
      clear hXs HX2 HB2 y4 y5 y6
      obtain ⟨rfl, HX3, HB3⟩ := hcut
      have y4 := (blk_cell HX3.out 4).trans (show _ = some (.int .i64 a0_4) from rfl)
      have y5 := (blk_cell HX3.out 5).trans (show _ = some (.bool a0_5) from rfl)
      have y6 := (blk_cell HX3.out 6).trans (show _ = some (.int .i64 a0_6) from rfl)
      have hHs : (seedH a0_0 a0_1 a0_3 a0_5).size ≤ 100 := seedH_size _ _ _ _
      generalize seedH a0_0 a0_1 a0_3 a0_5 = H at HF hHs ⊢
      have hF : seedEnd k H Bt (Go.bits .and .i64 a0_6 15) (Go.bits .and .i64 a0_4 3) = some r := by rw [HBt.out]; exact HF.out
      clear HF
      obtain ⟨wr, hw, hw16⟩ := and15_lt a0_6
      obtain ⟨ch, hc, hc4⟩ := and3_lt a0_4
      rw [hw, hc] at hF
      unfold seedEnd at hF
      by_cases e1 : (wr : Int) = 1
      · rw [if_pos e1] at hF
        obtain rfl := Option.some.inj hF
        have w1 : ((wr : Int) == 1) = true := beq_iff_eq.2 (by omega)
        have q0 : (9223372036854775807 < H.size + 7) = False := eq_false (by omega)
        clear hF e1
        go_wp2
        first | go_ret | ((try simp only [Exit.inBlock, Exit.then]); go_ret)
        exact ⟨rfl, HB3.out⟩
      rw [if_neg e1] at hF
      by_cases e2 : (wr : Int) = 2
      · rw [if_pos e2] at hF
        obtain rfl := Option.some.inj hF
        have w1 : ((wr : Int) == 1) = false := beq_eq_false_iff_ne.2 (by omega)
        have w2 : ((wr : Int) == 2) = true := beq_iff_eq.2 (by omega)
        have q0 : (9223372036854775807 < H.size + 23) = False := eq_false (by omega)
        clear hF e2 e1
        go_wp2
        first | go_ret | ((try simp only [Exit.inBlock, Exit.then]); go_ret)
        exact ⟨rfl, HB3.out⟩
      rw [if_neg e2] at hF
      by_cases e3 : (wr : Int) = 3
      · rw [if_pos e3] at hF
        obtain rfl := Option.some.inj hF
        have w1 : ((wr : Int) == 1) = false := beq_eq_false_iff_ne.2 (by omega)
        have w2 : ((wr : Int) == 2) = false := beq_eq_false_iff_ne.2 (by omega)
        have w3 : ((wr : Int) == 3) = true := beq_iff_eq.2 (by omega)
        have q0 : (9223372036854775807 < H.size + 30) = False := eq_false (by omega)
        clear hF e3 e1 e2
        go_wp2
        first | go_ret | ((try simp only [Exit.inBlock, Exit.then]); go_ret)
        exact ⟨rfl, HB3.out⟩
      rw [if_neg e3] at hF
      have w1 : ((wr : Int) == 1) = false := beq_eq_false_iff_ne.2 (by omega)
      have w2 : ((wr : Int) == 2) = false := beq_eq_false_iff_ne.2 (by omega)
      have w3 : ((wr : Int) == 3) = false := beq_eq_false_iff_ne.2 (by omega)
      clear e1 e2 e3
      by_cases e4 : (ch : Int) > 0
      · rw [if_pos e4] at hF
        obtain ⟨cc, hcc, hF⟩ := Option.bind_eq_some_iff.1 hF
        by_cases e5 : cc.size ≤ 1000000
        · rw [if_pos e5] at hF
          obtain rfl := Option.some.inj hF
          have HC := Aside0.mk hcc
          have x4 : decide (0 < (ch : Int)) = true := decide_eq_true e4
          have x5 : decide (0 < ch) = true := decide_eq_true (by omega)
          have x5p : 0 < ch := by omega
          have q0 : (9223372036854775807 < H.size + 30) = False := eq_false (by omega)
          have q1 : (9223372036854775807 < H.size + 30 + cc.size) = False := eq_false (by omega)
          clear hF hcc e4 e5
          go_wp2_with (go_at_call 21; refine (body_Chunks.calls k Bt (ch : Int) cc _ HC.out).mono ?_; rintro e w5 ⟨rfl, hb5⟩; have HB5 := Aside0.mk (HB3.out.trans (bel_less hb5 HB3.out.size)); clear hb5)
          first | go_ret | ((try simp only [Exit.inBlock, Exit.then]); go_ret)
          exact ⟨rfl, HB5.out⟩
        · rw [if_neg e5] at hF; cases hF
      rw [if_neg e4] at hF
      have x4 : decide (0 < (ch : Int)) = false := decide_eq_false e4
      have x5 : decide (0 < ch) = false := decide_eq_false (by omega)
      have x5p : ¬ 0 < ch := by omega
      clear e4
      by_cases e6 : Bt.size = 0
      · rw [if_pos e6] at hF
        obtain rfl := Option.some.inj hF
        have x6 : Bt.toList.isEmpty = true := str_empty e6
        have q0 : (9223372036854775807 < H.size + 2) = False := eq_false (by omega)
        clear hF e6
        go_wp2
        first | go_ret | ((try simp only [Exit.inBlock, Exit.then]); go_ret)
        exact ⟨rfl, HB3.out⟩
      · rw [if_neg e6] at hF
        obtain ⟨dd, hdd, hF⟩ := Option.bind_eq_some_iff.1 hF
        by_cases e5 : dd.size ≤ 1000000
        · rw [if_pos e5] at hF
          obtain rfl := Option.some.inj hF
          have HC := Aside0.mk hdd
          have x6 : Bt.toList.isEmpty = false := str_some e6
          have q0 : (9223372036854775807 < H.size + 16) = False := eq_false (by omega)
          have q1 : (9223372036854775807 < H.size + 16 + dd.size) = False := eq_false (by omega)
          have q2 : (9223372036854775807 < H.size + 16 + dd.size + 4) = False := eq_false (by omega)
          have q3 : (9223372036854775807 < H.size + 16 + dd.size + 4 + Bt.size) = False := eq_false (by omega)
          clear hF hdd e5 e6
          go_wp2_with (go_at_call 22; refine (crossroadlaw04_digits.calls k (Bt.size : Int) dd _ HC.out).mono ?_; rintro e w5 ⟨rfl, hb5⟩; have HB5 := Aside0.mk (HB3.out.trans (bel_less hb5 HB3.out.size)); clear hb5)
          first | go_ret | ((try simp only [Exit.inBlock, Exit.then]); go_ret)
          exact ⟨rfl, HB5.out⟩
        · rw [if_neg e5] at hF; cases hF
end Go.Proofs.YtldaingkcnmaoaaDoor.X
