/- BodySizes: sizes of chunks are digits of base 16, up to what may be in all. No condition. -/
import Derived.Test.YtkdmjkoojipofaaXChunkM
import Derived.Test.YtkdmjkoojipofaaXBits
import Derived.Test.YtkdmjkoojipofaaX14
set_option linter.unusedVariables false
set_option linter.unusedSimpArgs false
namespace Go.Proofs.Ytkdmjkoojipofaa.Pure
open Go.RowKit Go.Proofs.Ytkdmjkoojipofaa.X Go.Proofs.YtkdmjkoojipofaaW.PrintWords Go.Proofs.YtkdmjkoojipofaaW.PrintLast Go.Proofs.Ytkdmjkoojipofaa.M

def digU (n : Nat) : UInt8 := UInt8.ofNat (if n < 10 then 48 + n else 55 + n)
def hexU (n : Nat) : List UInt8 := if n < 16 then [digU n] else if n < 256 then [digU (n / 16), digU (n % 16)] else [digU (n / 256), digU (n / 16 % 16), digU (n % 16)]
theorem hexU_all : ∀ n : Fin 1024, (crossroadlaw03_hex.f 4 (n.val : Int)).map (fun s => s.data.toList) = some (hexU n.val) := by decide +kernel
theorem hexU_num : ∀ n : Fin 1024, numL 16 (firstW (hexU n.val)) = ((n.val : Int), true) := by decide +kernel
theorem hexU_ok : ∀ n : Fin 1024, (hexU n.val).all (fun c => decide (c.toNat ≠ 13 ∧ c.toNat ≠ 10)) = true ∧ (hexU n.val).length ≤ 3 := by decide +kernel
theorem hexU_f (n : Nat) (h : n < 1024) : Ev (fun k => crossroadlaw03_hex.f k (n : Int)) (toBA (hexU n)) := by
  have h1 := hexU_all ⟨n, h⟩
  obtain ⟨s, hs, e⟩ := Option.map_eq_some_iff.1 h1
  refine Ev.ofMono (fun k => crossroadlaw03_hex.mono_l k _) 4 ?_
  rw [show ((⟨n, h⟩ : Fin 1024).val : Int) = (n : Int) from rfl] at hs
  rw [hs, ← toBA_data s, e]
theorem hexU_clean (n : Nat) (h : n < 1024) : M.Clean (hexU n) := fun c hc => by
  have := List.all_eq_true.1 (hexU_ok ⟨n, h⟩).1 c hc
  simpa using this
def ckU (p : List UInt8) : List UInt8 := if p = [] then [] else hexU p.length ++ [13, 10] ++ p ++ [13, 10]
theorem ck_run (d p rest : List UInt8) (hp : p.length < 1024) (h6 : d.length + p.length ≤ 600) : (runB (lnB 0 d []) (ckU p ++ rest)).1 = (runB (lnB 0 (d ++ p) []) rest).1 := by
  unfold ckU
  by_cases h : p = []
  · rw [if_pos h, h, List.append_nil, List.nil_append]
  · rw [if_neg h]
    have e := chunk_run d (hexU p.length) p rest (hexU_clean _ hp) (by have : (hexU p.length).length ≤ 3 := (hexU_ok ⟨p.length, hp⟩).2; omega) (hexU_num ⟨p.length, hp⟩) h h6
    have e2 : hexU p.length ++ [13, 10] ++ p ++ [13, 10] ++ rest = hexU p.length ++ 13 :: 10 :: (p ++ 13 :: 10 :: rest) := by simp
    rw [e2, e]
theorem ck_over (d p rest : List UInt8) (hp : p.length < 1024) (hd : d.length ≤ 600) (h6 : d.length + p.length > 600) : (runB (lnB 0 d []) (ckU p ++ rest)).1.status = 413 := by
  have h : p ≠ [] := fun e => by rw [e] at h6; simp at h6; omega
  unfold ckU
  rw [if_neg h]
  have e := chunk_over d (hexU p.length) p ([13, 10] ++ rest) (hexU_clean _ hp) (by have : (hexU p.length).length ≤ 3 := (hexU_ok ⟨p.length, hp⟩).2; omega) (hexU_num ⟨p.length, hp⟩) hd h6 (by omega)
  have e2 : hexU p.length ++ [13, 10] ++ p ++ [13, 10] ++ rest = hexU p.length ++ 13 :: 10 :: (p ++ ([13, 10] ++ rest)) := by simp
  rw [e2]
  exact e.2
theorem ck_len (p : List UInt8) (hp : p.length < 1024) : (ckU p).length ≤ 2000 := by
  have : (hexU p.length).length ≤ 3 := (hexU_ok ⟨p.length, hp⟩).2
  unfold ckU
  split
  · simp
  · simp only [List.length_append, List.length_cons, List.length_nil]; omega
theorem end5 (d : List UInt8) : (runB (lnB 0 d []) [48, 13, 10, 13, 10]).1 = { lnB 3 d [] with done := true } := by
  rw [show ([48, 13, 10, 13, 10] : List UInt8) = 48 :: 13 :: 10 :: [13, 10] from rfl, nought_run, end_run d []]
theorem sizes_l2 (a b : Nat) (X Y : List UInt8) (hX : X.length = a) (hY : Y.length = b) (ha : a < 1024) (hb : b < 1024) :
    Ev (fun k => crossroadlaw03_BodySizes.l2 k (a : Int) (b : Int) (toBA X) (toBA Y) (toBA []) [toBA X, toBA Y] 2 0) true := by
  have step : ∀ (p t : List UInt8) (i : Int), 0 ≤ i → i < 2 → rdOf ByteArray.empty [toBA X, toBA Y] i = toBA p → p.length < 1024 → t.length ≤ 10000 →
      Ev (fun k => crossroadlaw03_BodySizes.l2 k (a : Int) (b : Int) (toBA X) (toBA Y) (toBA (t ++ ckU p)) [toBA X, toBA Y] 2 (i + 1)) true → Ev (fun k => crossroadlaw03_BodySizes.l2 k (a : Int) (b : Int) (toBA X) (toBA Y) (toBA t) [toBA X, toBA Y] 2 i) true := by
    intro p t i h0 h1 hr hp ht hk
    have hw : wrap64 (i + 1) = i + 1 := w64 (by omega) (by omega)
    refine Ev.step' ?_
    simp only [crossroadlaw03_BodySizes.l2, if_pos h1, if_pos h0, List.length_cons, List.length_nil, if_pos (show i < ((0 + 1 + 1 : Nat) : Int) by omega), hr, toBA_toList, hw]
    by_cases h : p = []
    · have e : ckU p = [] := by rw [ckU, if_pos h]
      rw [e, List.append_nil] at hk
      simp only [if_pos h]
      exact hk
    · simp only [if_neg h, toBA_size]
      have hl : (hexU p.length).length ≤ 3 := (hexU_ok ⟨p.length, hp⟩).2
      refine Ev.bind (hexU_f p.length hp) ?_
      have c2 : (⟨#[13, 10]⟩ : ByteArray) = toBA [13, 10] := rfl
      simp only [c2, toBA_append, toBA_size, List.length_append, List.length_cons, List.length_nil]
      simp only [if_pos (show (hexU p.length).length + 2 ≤ 9223372036854775807 by omega), if_pos (show (hexU p.length).length + (0 + 1 + 1) + p.length ≤ 9223372036854775807 by omega), if_pos (show (hexU p.length).length + (0 + 1 + 1) + p.length + 2 ≤ 9223372036854775807 by omega), if_pos (show t.length + ((hexU p.length).length + (0 + 1 + 1) + p.length + (0 + 1 + 1)) ≤ 9223372036854775807 by omega)]
      rw [ckU, if_neg h] at hk
      exact hk
  have lx := ck_len X (by omega)
  have ly := ck_len Y (by omega)
  refine step X [] 0 (by omega) (by omega) rfl (by omega) (by simp) (step Y ([] ++ ckU X) 1 (by omega) (by omega) rfl (by omega) (by simp; omega) ?_)
  have hw : wrap64 ((a : Int) + (b : Int)) = (a : Int) + (b : Int) := w64 (by omega) (by omega)
  have c5 : (⟨#[48, 13, 10, 13, 10]⟩ : ByteArray) = toBA [48, 13, 10, 13, 10] := rfl
  refine Ev.step' ?_
  simp only [crossroadlaw03_BodySizes.l2, if_neg (show ¬ (1 + 1 : Int) < 2 by omega), toBA_size, List.nil_append, List.length_append, if_pos (show (ckU X).length + (ckU Y).length + 5 ≤ 9223372036854775807 by omega), c5, toBA_append, hw]
  refine Ev.bind (lawFeed_f (-1) (ckU X ++ ckU Y ++ [48, 13, 10, 13, 10]) (by simp; omega)) ?_
  rw [newB_chunks, List.append_assoc]
  by_cases h6 : (a : Int) + (b : Int) > 600
  · simp only [if_pos h6, body_Body_Status.f, Option.bind_some]
    have hst : (runB (lnB 0 [] []) (ckU X ++ (ckU Y ++ [48, 13, 10, 13, 10]))).1.status = 413 := by
      by_cases hx : a > 600
      · exact ck_over [] X _ (by omega) (by simp) (by simp; omega)
      · rw [ck_run [] X _ (by omega) (by simp; omega)]
        exact ck_over ([] ++ X) Y _ (by omega) (by simp; omega) (by simp; omega)
    rw [hst]
    exact Ev.now true
  · have hr : (runB (lnB 0 [] []) (ckU X ++ (ckU Y ++ [48, 13, 10, 13, 10]))).1 = { lnB 3 (X ++ Y) [] with done := true } := by
      rw [ck_run [] X _ (by omega) (by simp; omega), ck_run ([] ++ X) Y _ (by omega) (by simp; omega), List.nil_append, end5]
    have hd : strOfNums (nts (X ++ Y)) = toBA (X ++ Y) := strOfNums_nats _
    simp only [if_neg h6, hr, body_Body_Status.f, body_Body_Done.f, body_Body_Data.f, Option.bind_some, if_true]
    simp only [lnB, if_true, hd, if_pos (show X.length + Y.length ≤ 9223372036854775807 by omega), toBA_toList]
    exact Ev.const (by simp)
theorem sizes_l1 (a b : Nat) (X : List UInt8) (hX : X.length = a) (ha : a < 1024) (hb : b < 1024) : ∀ j : Nat, j ≤ b →
    Ev (fun k => crossroadlaw03_BodySizes.l1 k (a : Int) (b : Int) (toBA X) (toBA (List.replicate (b - j) 121)) (b : Int) ((b - j : Nat) : Int)) true := by
  intro j
  induction j with
  | zero =>
    intro _
    refine Ev.step' ?_
    simp only [crossroadlaw03_BodySizes.l1, Nat.sub_zero, if_neg (show ¬ (b : Int) < (b : Int) by omega), Option.bind_some]
    exact sizes_l2 a b X (List.replicate b 121) hX (by simp) ha hb
  | succ j ih =>
    intro hj
    have hw : wrap64 (((b - (j + 1) : Nat) : Int) + 1) = ((b - j : Nat) : Int) := by rw [w64 (by omega) (by omega)]; omega
    have ea : toBA (List.replicate (b - (j + 1)) 121) ++ (⟨#[121]⟩ : ByteArray) = toBA (List.replicate (b - j) 121) := by
      rw [show (⟨#[121]⟩ : ByteArray) = toBA [121] from rfl, toBA_append, show b - j = (b - (j + 1)) + 1 by omega, List.replicate_succ']
    refine Ev.step' ?_
    simp only [crossroadlaw03_BodySizes.l1, if_pos (show ((b - (j + 1) : Nat) : Int) < (b : Int) by omega), toBA_size, List.length_replicate, if_pos (show b - (j + 1) + 1 ≤ 9223372036854775807 by omega), ea, hw]
    exact ih (by omega)
theorem sizes_l0 (a b : Nat) (ha : a < 1024) (hb : b < 1024) : ∀ j : Nat, j ≤ a →
    Ev (fun k => crossroadlaw03_BodySizes.l0 k (a : Int) (b : Int) (toBA (List.replicate (a - j) 120)) (a : Int) ((a - j : Nat) : Int)) true := by
  intro j
  induction j with
  | zero =>
    intro _
    refine Ev.step' ?_
    simp only [crossroadlaw03_BodySizes.l0, Nat.sub_zero, if_neg (show ¬ (a : Int) < (a : Int) by omega)]
    have := sizes_l1 a b (List.replicate a 120) (by simp) ha hb b (Nat.le_refl _)
    simp only [Nat.sub_self] at this
    exact this
  | succ j ih =>
    intro hj
    have hw : wrap64 (((a - (j + 1) : Nat) : Int) + 1) = ((a - j : Nat) : Int) := by rw [w64 (by omega) (by omega)]; omega
    have ea : toBA (List.replicate (a - (j + 1)) 120) ++ (⟨#[120]⟩ : ByteArray) = toBA (List.replicate (a - j) 120) := by
      rw [show (⟨#[120]⟩ : ByteArray) = toBA [120] from rfl, toBA_append, show a - j = (a - (j + 1)) + 1 by omega, List.replicate_succ']
    refine Ev.step' ?_
    simp only [crossroadlaw03_BodySizes.l0, if_pos (show ((a - (j + 1) : Nat) : Int) < (a : Int) by omega), toBA_size, List.length_replicate, if_pos (show a - (j + 1) + 1 ≤ 9223372036854775807 by omega), ea, hw]
    exact ih (by omega)
theorem BodySizes : crossroadlaw03_BodySizes.Pure := by
  intro a0 a1 _ _
  refine Ev.rounds (g := fun k => crossroadlaw03_BodySizes.f k a0 a1) ?_
  simp only [crossroadlaw03_BodySizes.f, i64_and1023]
  refine Ev.bind fit_f ?_
  simp only [if_true]
  obtain ⟨a, ha, ha4⟩ : ∃ a : Nat, a0 % 1024 = (a : Int) ∧ a < 1024 := ⟨(a0 % 1024).toNat, by omega, by omega⟩
  obtain ⟨b, hb, hb4⟩ : ∃ b : Nat, a1 % 1024 = (b : Int) ∧ b < 1024 := ⟨(a1 % 1024).toNat, by omega, by omega⟩
  rw [ha, hb]
  have := sizes_l0 a b ha4 hb4 a (Nat.le_refl _)
  simp only [Nat.sub_self] at this
  exact this
end Go.Proofs.Ytkdmjkoojipofaa.Pure
