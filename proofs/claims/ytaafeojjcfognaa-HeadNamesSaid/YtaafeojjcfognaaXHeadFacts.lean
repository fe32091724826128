/- Plain facts on heads, for the laws of layer 2; and fit. -/
import Derived.Test.YtaafeojjcfognaaXHead
import Derived.Test.YtaafeojjcfognaaXWordsFacts
import Derived.Test.YtaafeojjcfognaaXBits
import Derived.Test.YtaafeojjcfognaaX16
set_option linter.unusedVariables false
set_option linter.unusedSimpArgs false
namespace Go.Proofs.Ytaafeojjcfognaa.M
open Go.RowKit Go.Proofs.YtaafeojjcfognaaW.PrintWords Go.Proofs.Ytaafeojjcfognaa.X
theorem fit_f : Ev (fun k => crossroadlaw02_fit.f k) true := Ev.of (fun k => crossroadlaw02_fit.mono k) (k := 60) (by decide +kernel)
/-- The lines that every law takes. -/
def lHost : List UInt8 := [104, 111, 115, 116, 58, 32, 97]
def fHost : FldM := (sHost, [97])
theorem field_host : fieldL lHost = (fHost, true) := by decide +kernel
theorem words3 (a b c : List UInt8) (ha : ∀ x ∈ a, x.toNat ≠ 32) (hb : ∀ x ∈ b, x.toNat ≠ 32) (hc : ∀ x ∈ c, x.toNat ≠ 32) : wordsL 32 (a ++ 32 :: (b ++ 32 :: c)) = [a, b, c] := by
  have k (l : List UInt8) (h : ∀ x ∈ l, x.toNat ≠ 32) : ∀ x ∈ l, (x.toNat : Int) ≠ ((32 : UInt8).toNat : Int) := fun x hx e => h x hx (by have : ((32 : UInt8).toNat : Int) = 32 := rfl; omega)
  have h1 := wordsGo_app 32 a (b ++ 32 :: c) [] (k a ha)
  have h2 := wordsGo_app 32 b c [] (k b hb)
  have h3 := wordsGo_nosep ((32 : UInt8).toNat : Int) c [] (k c hc)
  rw [h2, h3] at h1
  exact h1
theorem allL_nil (name : List UInt8) : allL name [] = [] := rfl
theorem allL_cons (name : List UInt8) (f : FldM) (fs : List FldM) : allL name (f :: fs) = if f.1 = name then f.2 :: allL name fs else allL name fs := by
  by_cases h : f.1 = name <;> simp [allL, h]
theorem allL_app (name : List UInt8) (a b : List FldM) : allL name (a ++ b) = allL name a ++ allL name b := by simp [allL]
theorem allL_no (name : List UInt8) (fs : List FldM) (h : ∀ f ∈ fs, f.1 ≠ name) : allL name fs = [] := by
  induction fs with
  | nil => rfl
  | cons f r ih => rw [allL_cons, if_neg (h f (by simp)), ih (fun f hf => h f (by simp [hf]))]
theorem allL_yes (name : List UInt8) (fs : List FldM) (h : ∀ f ∈ fs, f.1 = name) : allL name fs = fs.map fun f => f.2 := by
  induction fs with
  | nil => rfl
  | cons f r ih => rw [allL_cons, if_pos (h f (by simp)), ih (fun f hf => h f (by simp [hf]))]; rfl
theorem fieldsL_map {α : Type} (g : α → List UInt8) (q : α → FldM) (xs : List α) (h : ∀ x ∈ xs, fieldL (g x) = (q x, true)) : fieldsL (xs.map g) = some (xs.map q) := by
  induction xs with
  | nil => rfl
  | cons x r ih =>
    have e := h x (by simp)
    simp only [List.map_cons, fieldsL, e, if_true, ih (fun x hx => h x (by simp [hx])), Option.map_some]
theorem fieldsL_cons (l : List UInt8) (r : List (List UInt8)) (f : FldM) (fs : List FldM) (h : fieldL l = (f, true)) (hr : fieldsL r = some fs) : fieldsL (l :: r) = some (f :: fs) := by
  simp only [fieldsL, h, if_true, hr, Option.map_some]
theorem frame_plain (m t : List UInt8) (fs : List FldM) (h1 : (allL sHost fs).length = 1) (h2 : allL sLen fs = []) (h3 : allL sCod fs = []) : frameL m t fs = ⟨m, t, fs, closeL fs, 0, 0⟩ := by
  rw [frameL, badFrame_f fs h1 (by rw [h2]; simp) (by rw [h2]; simp), h2, h3]
  rfl
theorem splitC_no (a r : List UInt8) (h : ∀ x ∈ a, x.toNat ≠ 58) : splitC (a ++ 58 :: r) = some (a, r) := by
  induction a with
  | nil => rfl
  | cons c q ih =>
    have := ih (fun x hx => h x (by simp [hx]))
    simp only [List.cons_append, splitC, if_neg (h c (by simp)), this, Option.map_some]
theorem field_of (a r : List UInt8) (h : ∀ x ∈ a, x.toNat ≠ 58) (ht : tokenL a = true) (hv : valueL (trimL r) = true) : fieldL (a ++ 58 :: r) = ((lowerL a, trimL r), true) := by
  simp only [fieldL, splitC_no a r h, ht, hv, Bool.and_self]
theorem mark_colon : ∀ n : Fin 256, markN n.val = true → n.val ≠ 58 := by decide +kernel
theorem token_colon (a : List UInt8) (ht : tokenL a = true) : ∀ x ∈ a, x.toNat ≠ 58 := by
  intro x hx
  simp only [tokenL, Bool.and_eq_true, List.all_eq_true] at ht
  exact mark_colon ⟨x.toNat, x.toNat_lt⟩ (ht.1 x hx)
theorem parse_plain (a b : List UInt8) (rest : List (List UInt8)) (fs : List FldM) (ha : ∀ x ∈ a, x.toNat ≠ 32) (hb : ∀ x ∈ b, x.toNat ≠ 32)
    (hl : a.length + b.length ≤ 190) (hr : rest.length ≤ 16) (hf : firstL a b = true) (hfs : fieldsL rest = some fs) : parseL ((a ++ 32 :: (b ++ 32 :: sVer)) :: rest) = frameL a b fs := by
  have hv : sVer.length = 8 := rfl
  rw [parseL, if_neg (by simp only [List.length_append, List.length_cons, hv]; omega), words3 a b sVer ha hb (by decide)]
  simp only [hf, if_true, hfs]
theorem hT_map (h : HeadR) : (hT h).2.2.1.length = h.fs.length := by simp [hT]
end Go.Proofs.Ytaafeojjcfognaa.M
