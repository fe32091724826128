/- Segments and the targets that have them: plain lists. -/
import Derived.Test.YtnafapefbcmmbaaXPatM
set_option linter.unusedVariables false
set_option linter.unusedSimpArgs false
namespace Go.Proofs.Ytnafapefbcmmbaa.M
open Go.RowKit Go.Proofs.YtnafapefbcmmbaaW.PrintWords

def hd16 (n : Nat) : UInt8 := UInt8.ofNat (if n < 10 then 48 + n else 87 + n)
def encB (all : Bool) (c : UInt8) : List UInt8 := if (all || (decide (c.toNat = 47) || (decide (c.toNat = 63) || decide (c.toNat = 37)))) = true then [37, hd16 (c.toNat / 16), hd16 (c.toNat % 16)] else [c]
def encS (all : Bool) (s : List UInt8) : List UInt8 := s.flatMap (encB all)
def textL (f : List UInt8 → List UInt8) (l : List (List UInt8)) : List UInt8 := l.flatMap fun s => 47 :: f s
theorem hex_num : ∀ n : Fin 256, numL 16 [hd16 (n.val / 16), hd16 (n.val % 16)] = ((n.val : Int), true) := by decide +kernel
theorem hex_ne : ∀ n : Fin 16, (hd16 n.val).toNat ≠ 47 ∧ (hd16 n.val).toNat ≠ 63 := by decide +kernel
theorem encB_ne (all : Bool) (c : UInt8) : ∀ x ∈ encB all c, x.toNat ≠ 47 ∧ x.toNat ≠ 63 := by
  intro x hx
  have hc := c.toNat_lt
  unfold encB at hx
  split at hx
  · rcases List.mem_cons.1 hx with rfl | hx
    · decide
    · rcases List.mem_cons.1 hx with rfl | hx
      · exact hex_ne ⟨c.toNat / 16, by omega⟩
      · rw [List.mem_singleton.1 hx]; exact hex_ne ⟨c.toNat % 16, by omega⟩
  · rename_i h
    rw [List.mem_singleton.1 hx]
    simp at h
    exact ⟨h.2.1, h.2.2.1⟩
theorem encS_ne (all : Bool) (s : List UInt8) : ∀ x ∈ encS all s, x.toNat ≠ 47 ∧ x.toNat ≠ 63 := by
  intro x hx
  obtain ⟨c, _, hx⟩ := List.mem_flatMap.1 hx
  exact encB_ne all c x hx
theorem byteOf_nat (c : UInt8) : byteOf (c.toNat : Int) = c := by simp [byteOf]
theorem turn_enc (all : Bool) (s : List UInt8) : turnL (encS all s) = some s := by
  induction s with
  | nil => exact turnL_nil
  | cons c r ih =>
    have e : encS all (c :: r) = encB all c ++ encS all r := rfl
    rw [e]
    unfold encB
    split
    · have hn := hex_num ⟨c.toNat, c.toNat_lt⟩
      simp only at hn
      rw [List.cons_append, List.cons_append, List.cons_append, List.nil_append, turnL_pct 37 _ _ _ rfl, hn]
      simp [ih, byteOf_nat]
    · rename_i h
      simp at h
      rw [List.singleton_append, turnL_other c _ h.2.2.2, ih]; rfl
theorem turn_plain (s : List UInt8) (h : ∀ c ∈ s, c.toNat ≠ 37) : turnL s = some s := by
  induction s with
  | nil => exact turnL_nil
  | cons c r ih => rw [turnL_other c r (h c (by simp)), ih (fun x hx => h x (by simp [hx]))]; rfl
theorem turnsL_map (f : List UInt8 → List UInt8) (l : List (List UInt8)) (h : ∀ s ∈ l, turnL (f s) = some s) : turnsL (l.map f) = some l := by
  induction l with
  | nil => rfl
  | cons s r ih =>
    simp only [List.map_cons, turnsL, h s (by simp)]
    rw [ih (fun x hx => h x (by simp [hx]))]; rfl
theorem words_text (f : List UInt8 → List UInt8) (r : List (List UInt8)) : ∀ s : List UInt8, (∀ x ∈ s :: r, ∀ c ∈ f x, c.toNat ≠ 47) → wordsL 47 (f s ++ textL f r) = (s :: r).map f := by
  induction r with
  | nil =>
    intro s h
    have := wordsGo_nosep 47 (f s) [] (fun c hc => by have := h s (by simp) c hc; omega)
    simpa [wordsL, textL] using this
  | cons t r ih =>
    intro s h
    have e : textL f (t :: r) = 47 :: (f t ++ textL f r) := rfl
    have := wordsGo_app 47 (f s) (f t ++ textL f r) [] (fun c hc => by have := h s (by simp) c hc; show (c.toNat : Int) ≠ 47; omega)
    rw [e, wordsL]
    rw [show ((47 : UInt8).toNat : Int) = 47 from rfl] at this
    rw [this]
    have k := ih t (fun x hx => h x (by simp at hx ⊢; exact .inr hx))
    rw [wordsL] at k
    rw [k]; rfl
theorem text_ne47 (f : List UInt8 → List UInt8) (s : List UInt8) (r : List (List UInt8)) : textL f (s :: r) = 47 :: (f s ++ textL f r) := rfl
/-- What a text of segments is split into. -/
theorem split_text (f : List UInt8 → List UInt8) (l : List (List UInt8)) (hl : l ≠ []) (h47 : ∀ x ∈ l, ∀ c ∈ f x, c.toNat ≠ 47) (ht : ∀ s ∈ l, turnL (f s) = some s) (hne : textL f l ≠ [47]) :
    splitT (textL f l) = if l.length > 8 then ([], false) else (l, true) := by
  cases l with
  | nil => exact absurd rfl hl
  | cons s r =>
    rw [text_ne47] at hne ⊢
    rw [splitT_cons 47 _ rfl, if_neg hne, words_text f r s h47, turnsL_map f (s :: r) ht]
    simp
theorem text_q (f : List UInt8 → List UInt8) (l : List (List UInt8)) (h63 : ∀ x ∈ l, ∀ c ∈ f x, c.toNat ≠ 63) : ∀ c ∈ textL f l, c.toNat ≠ 63 := by
  intro c hc
  obtain ⟨s, hs, hc⟩ := List.mem_flatMap.1 hc
  rcases List.mem_cons.1 hc with rfl | hc
  · decide
  · exact h63 s hs c hc
theorem before_q (t q : List UInt8) (h : ∀ c ∈ t, c.toNat ≠ 63) : beforeQ (t ++ 63 :: q) = t := by
  rw [beforeQ, headD_words]
  induction t with
  | nil => simp
  | cons c r ih =>
    have : ¬ (c.toNat : Int) = 63 := by have := h c (by simp); omega
    simp [this, ih (fun x hx => h x (by simp [hx]))]
theorem before_no (t : List UInt8) (h : ∀ c ∈ t, c.toNat ≠ 63) : beforeQ t = t := by
  rw [beforeQ, headD_words]
  induction t with
  | nil => simp
  | cons c r ih =>
    have : ¬ (c.toNat : Int) = 63 := by have := h c (by simp); omega
    simp [this, ih (fun x hx => h x (by simp [hx]))]
theorem textL_snoc (f : List UInt8 → List UInt8) (l : List (List UInt8)) (s : List UInt8) : textL f (l ++ [s]) = textL f l ++ 47 :: f s := by simp [textL]
theorem encB_len (all : Bool) (c : UInt8) : (encB all c).length ≤ 3 := by unfold encB; split <;> simp
theorem encS_len (all : Bool) (s : List UInt8) : (encS all s).length ≤ 3 * s.length := by
  induction s with
  | nil => simp [encS]
  | cons c r ih =>
    have e : encS all (c :: r) = encB all c ++ encS all r := rfl
    have := encB_len all c
    rw [e]; simp only [List.length_append, List.length_cons]; omega
theorem textL_len (f : List UInt8 → List UInt8) (m : Nat) (l : List (List UInt8)) (h : ∀ s ∈ l, (f s).length ≤ m) : (textL f l).length ≤ l.length * (m + 1) := by
  induction l with
  | nil => simp [textL]
  | cons s r ih =>
    rw [text_ne47]
    have h1 := h s (by simp)
    have h2 := ih (fun x hx => h x (by simp [hx]))
    simp only [List.length_append, List.length_cons, Nat.succ_mul]
    omega
end Go.Proofs.Ytnafapefbcmmbaa.M
