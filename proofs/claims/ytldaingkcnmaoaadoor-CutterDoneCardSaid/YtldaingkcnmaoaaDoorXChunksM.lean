-- Made smaller by wip/squeeze.py out of this claim's texts. Not trusted: Lean checks it.
import Derived.Test.YtldaingkcnmaoaaDoorXBase4
import Derived.Test.YtldaingkcnmaoaaDoorX19
set_option linter.unusedVariables false
set_option linter.unusedSimpArgs false
namespace Go.Proofs.YtldaingkcnmaoaaDoor.M
open Go.RowKit Go.Proofs.YtldaingkcnmaoaaDoorW.PrintWords Go.Proofs.YtldaingkcnmaoaaDoorW.PrintMore Go.Proofs.YtldaingkcnmaoaaDoor.X
def digD (n : Nat) : UInt8 := UInt8.ofNat (if n < 10 then 48 + n else 87 + n)
def hexD (n : Nat) : List UInt8 := if n < 16 then [digD n] else [digD (n / 16), digD (n % 16)]
theorem hexD_all : ∀ n : Fin 65, (body_hex.f 4 (n.val : Int)).map (fun s => s.data.toList) = some (hexD n.val) := by decide +kernel
theorem hexD_num : ∀ n : Fin 65, numL 16 (firstW (hexD n.val)) = ((n.val : Int), true) := by decide +kernel
theorem hexD_ok : ∀ n : Fin 65, (hexD n.val).all (fun c => decide (c.toNat ≠ 13 ∧ c.toNat ≠ 10)) = true ∧ (hexD n.val).length ≤ 2 := by decide +kernel
theorem hexD_f (n : Nat) (h : n < 65) : Ev (fun k => body_hex.f k (n : Int)) (toBA (hexD n)) := by
  have h1 := hexD_all ⟨n, h⟩
  obtain ⟨s, hs, e⟩ := Option.map_eq_some_iff.1 h1
  refine Ev.ofMono (fun k => body_hex.mono_l k _) 4 ?_
  rw [show ((⟨n, h⟩ : Fin 65).val : Int) = (n : Int) from rfl] at hs
  rw [hs, ← toBA_data s, e]
theorem hexD_clean (n : Nat) (h : n < 65) : Clean (hexD n) := fun c hc => by
  have := List.all_eq_true.1 (hexD_ok ⟨n, h⟩).1 c hc
  simpa using this
theorem hexD_len (n : Nat) (h : n < 65) : (hexD n).length ≤ 2 := (hexD_ok ⟨n, h⟩).2
def chunksF : Nat → Nat → List UInt8 → List UInt8
  | 0, _, _ => [48, 13, 10, 13, 10]
  | f + 1, n, s => if s = [] then [48, 13, 10, 13, 10] else (hexD (min n s.length) ++ [13, 10] ++ s.take n ++ [13, 10]) ++ chunksF f n (s.drop n)
theorem chunks_len (n : Nat) (h0 : 0 < n) (hn : n < 65) : ∀ (f : Nat) (s : List UInt8), (chunksF f n s).length ≤ 8 * s.length + 5 := by
  intro f
  induction f with
  | zero => intro s; simp [chunksF]
  | succ f ih =>
    intro s
    rw [chunksF]
    split
    · simp
    · rename_i hs
      have h1 := ih (s.drop n)
      have h2 := hexD_len (min n s.length) (by omega)
      have h3 : 0 < s.length := List.length_pos_iff.2 hs
      simp only [List.length_append, List.length_cons, List.length_nil, List.length_take, List.length_drop] at h1 ⊢
      omega
theorem chunks_l0 (n : Nat) (h0 : 0 < n) (hn : n < 65) : ∀ (f : Nat) (s acc : List UInt8), s.length ≤ f → acc.length + 8 * s.length ≤ 1000000 →
    Ev (fun k => body_Chunks.l0 k (toBA s) (n : Int) (toBA acc)) (toBA (acc ++ chunksF f n s)) := by
  intro f
  induction f with
  | zero =>
    intro s acc hs ha
    have e : s = [] := List.eq_nil_of_length_eq_zero (by omega)
    subst e
    have c5 : (⟨#[48, 13, 10, 13, 10]⟩ : ByteArray) = toBA [48, 13, 10, 13, 10] := rfl
    refine Ev.step' ?_
    simp only [body_Chunks.l0, toBA_toList, if_true, toBA_size, if_pos (show acc.length + 5 ≤ 9223372036854775807 by simp at ha; omega), c5, toBA_append, chunksF]
    exact Ev.now _
  | succ f ih =>
    intro s acc hs ha
    have c5 : (⟨#[48, 13, 10, 13, 10]⟩ : ByteArray) = toBA [48, 13, 10, 13, 10] := rfl
    have c2 : (⟨#[13, 10]⟩ : ByteArray) = toBA [13, 10] := rfl
    rw [chunksF]
    refine Ev.step' ?_
    by_cases e : s = []
    · simp only [body_Chunks.l0, toBA_toList, if_pos e, toBA_size, if_pos (show acc.length + 5 ≤ 9223372036854775807 by omega), c5, toBA_append]
      exact Ev.now _
    · have h3 : 0 < s.length := List.length_pos_iff.2 e
      have hm : mn (n : Int) (s.length : Int) = ((min n s.length : Nat) : Int) := by unfold mn; split <;> omega
      have h2 := hexD_len (min n s.length) (by omega)
      have et : s.take (min n s.length) = s.take n := by
        rcases Nat.le_total n s.length with hle | hle
        · rw [Nat.min_eq_left hle]
        · rw [Nat.min_eq_right hle, List.take_of_length_le (Nat.le_refl _), List.take_of_length_le hle]
      have ed : (s.drop (min n s.length)).take (s.length - min n s.length) = s.drop n := by
        rcases Nat.le_total n s.length with hle | hle
        · rw [Nat.min_eq_left hle]; exact List.take_of_length_le (by simp)
        · rw [Nat.min_eq_right hle, List.drop_of_length_le (Nat.le_refl _), List.drop_of_length_le hle]; simp
      have hl : (s.take n).length = min n s.length := List.length_take
      simp only [body_Chunks.l0, toBA_toList, if_neg e, toBA_size, hm]
      refine Ev.bind (hexD_f (min n s.length) (by omega)) ?_
      simp only [c2, toBA_append, toBA_size, toBA_extract, Int.toNat_natCast, List.drop_zero, Nat.sub_zero, et, ed, List.length_append, List.length_cons, List.length_nil, hl]
      simp only [if_pos (show (hexD (min n s.length)).length + 2 ≤ 9223372036854775807 by omega), if_pos (show (0 : Int) ≤ ((min n s.length : Nat) : Int) by omega), if_pos (show ((min n s.length : Nat) : Int) ≤ (s.length : Int) by omega), if_pos (show (hexD (min n s.length)).length + (0 + 1 + 1) + min n s.length ≤ 9223372036854775807 by omega), if_pos (show (hexD (min n s.length)).length + (0 + 1 + 1) + min n s.length + 2 ≤ 9223372036854775807 by omega), if_pos (show acc.length + ((hexD (min n s.length)).length + (0 + 1 + 1) + min n s.length + (0 + 1 + 1)) ≤ 9223372036854775807 by omega)]
      have key := ih (s.drop n) (acc ++ (hexD (min n s.length) ++ [13, 10] ++ s.take n ++ [13, 10])) (by simp; omega) (by simp only [List.length_append, List.length_cons, List.length_nil, hl, List.length_drop]; omega)
      rw [List.append_assoc acc] at key
      exact key
theorem chunks_f (n : Int) (m : Nat) (hm : mx n 1 = (m : Int)) (h0 : 0 < m) (hn : m < 65) (s : List UInt8) (hs : s.length ≤ 10000) : Ev (fun k => body_Chunks.f k (toBA s) n) (toBA (chunksF s.length m s)) := by
  have := chunks_l0 m h0 hn s.length s [] (Nat.le_refl _) (by simp; omega)
  unfold body_Chunks.f
  rw [hm]
  exact this
theorem chunks_run (n : Nat) (h0 : 0 < n) (hn : n < 65) (more : List UInt8) : ∀ (f : Nat) (s d : List UInt8), s.length ≤ f → d.length + s.length ≤ 600 →
    runB (lnB 0 d []) (chunksF f n s ++ more) = ({ lnB 3 (d ++ s) [] with done := true }, (chunksF f n s).length) := by
  have fin : ∀ d : List UInt8, runB (lnB 0 d []) ([48, 13, 10, 13, 10] ++ more) = ({ lnB 3 d [] with done := true }, 5) := fun d => by
    rw [show ([48, 13, 10, 13, 10] : List UInt8) ++ more = 48 :: 13 :: 10 :: (13 :: 10 :: more) from rfl, nought_run, end_run d more]
  intro f
  induction f with
  | zero =>
    intro s d hs h
    have e : s = [] := List.eq_nil_of_length_eq_zero (by omega)
    subst e
    rw [chunksF, fin, List.append_nil]; rfl
  | succ f ih =>
    intro s d hs h
    rw [chunksF]
    by_cases e : s = []
    · rw [if_pos e, fin, e, List.append_nil]; rfl
    · have h3 : 0 < s.length := List.length_pos_iff.2 e
      have hl : (s.take n).length = min n s.length := List.length_take
      have hne : s.take n ≠ [] := fun e3 => by
        have e4 := congrArg List.length e3
        rw [hl, List.length_nil] at e4
        omega
      have e2 : hexD (min n s.length) ++ [13, 10] ++ s.take n ++ [13, 10] ++ chunksF f n (s.drop n) ++ more = hexD (min n s.length) ++ 13 :: 10 :: (s.take n ++ 13 :: 10 :: (chunksF f n (s.drop n) ++ more)) := by simp
      have key := chunk_run d (hexD (min n s.length)) (s.take n) (chunksF f n (s.drop n) ++ more) (hexD_clean _ (by omega)) (by have := hexD_len (min n s.length) (by omega); omega) (by rw [hl]; exact hexD_num ⟨min n s.length, by omega⟩) hne (by rw [hl]; omega)
      rw [if_neg e, e2, key, ih (s.drop n) (d ++ s.take n) (by simp; omega) (by simp only [List.length_append, hl, List.length_drop]; omega), List.append_assoc, List.take_append_drop]
      refine Prod.ext rfl ?_
      simp only [List.length_append, List.length_cons, List.length_nil]
      omega
end Go.Proofs.YtldaingkcnmaoaaDoor.M
