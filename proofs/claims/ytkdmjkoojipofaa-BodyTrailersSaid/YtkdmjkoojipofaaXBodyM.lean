/- body's functions as they are printed (and given), and what they answer: in plain lists. -/
import Derived.Test.YtkdmjkoojipofaaXAscii
import Derived.Test.YtkdmjkoojipofaaXWordsFacts
import Derived.Test.YtkdmjkoojipofaaX5
import Derived.Test.YtkdmjkoojipofaaX6
import Derived.Test.YtkdmjkoojipofaaX9
import Derived.Test.YtkdmjkoojipofaaX8
set_option linter.unusedVariables false
set_option linter.unusedSimpArgs false
namespace Go.Proofs.Ytkdmjkoojipofaa.M
open Go.RowKit Go.Proofs.YtkdmjkoojipofaaW.PrintWords Go.Proofs.Ytkdmjkoojipofaa.X

theorem words_len_le (b : Int) (l : List UInt8) : ∀ cur, ∀ w ∈ wordsGo b cur l, w.length ≤ cur.length + l.length := by
  induction l with
  | nil => intro cur w hw; simp only [wordsGo, List.mem_singleton] at hw; subst hw; simp
  | cons c r ih =>
    intro cur w hw
    simp only [wordsGo] at hw
    split at hw
    · rcases List.mem_cons.1 hw with rfl | hw
      · simp
      · have := ih [] w hw; simp at this ⊢; omega
    · have := ih (cur ++ [c]) w hw; simp at this ⊢; omega
theorem wordsL_len_le (b : Int) (l : List UInt8) : ∀ w ∈ wordsL b l, w.length ≤ l.length := fun w hw => by have := words_len_le b l [] w hw; simpa using this
def firstW (l : List UInt8) : List UInt8 := (wordsL 59 l).headD []
def wholeL (b : BodyS) (l : List UInt8) : BodyS :=
  if b.st = 0 then sizeB b (numL 16 (firstW l)).1 (numL 16 (firstW l)).2
  else if b.st = 2 then { (if l = [] then b else failB b 400) with st := 0 }
  else { b with done := l.isEmpty }
def lineL (b : BodyS) (c : UInt8) : BodyS :=
  if b.line.length > 200 then failB b 431
  else if c.toNat ≠ 10 then (if crAt b.line = true then failB b 400 else b)
  else if crAt b.line = true then wholeL { b with line := [] } (b.line.take (b.line.length - 2))
  else failB b 400
def stepB (b : BodyS) (c : UInt8) : BodyS :=
  if b.done = true then b
  else if b.ch = false then { takeB b c with done := (takeB b c).done || ((takeB b c).left == 0) }
  else if b.st = 1 then (if (takeB b c).left = 0 then { takeB b c with st := 2 } else takeB b c)
  else lineL { b with line := b.line ++ [c] } c
theorem whole_f (b : BodyS) (l : List UInt8) (hl : l.length ≤ 100000) : Ev (fun k => wholeF k b (strOfNums (nts l))) (wholeL b l) := by
  have e : strOfNums (nts l) = toBA l := strOfNums_nats l
  rw [e]
  unfold wholeF wholeL
  by_cases h0 : b.st = 0
  · simp only [if_pos h0]
    refine Ev.bind (words_f 59 l (by omega)) ?_
    have hw := wordsGo_ne 59 l []
    have hlen := wordsL_len_le 59 l
    unfold firstW
    rw [show wordsGo 59 [] l = wordsL 59 l from rfl] at hw
    cases hx : wordsL 59 l with
    | nil => exact absurd hx hw
    | cons x r =>
      have hxl : x.length ≤ l.length := hlen x (by rw [hx]; simp)
      simp only [List.map_cons, List.length_cons, if_pos (show (0 : Int) < ((((List.map toBA r).length + 1 : Nat)) : Int) by omega), List.headD_cons]
      have er : rdOf ByteArray.empty (toBA x :: List.map toBA r) 0 = toBA x := by simp [rdOf]
      rw [er]
      refine Ev.bind (number_f 16 (.inr rfl) x (by omega)) ?_
      exact Ev.now _
  · simp only [if_neg h0]
    by_cases h2 : b.st = 2
    · simp only [if_pos h2, toBA_toList]; exact Ev.now _
    · simp only [if_neg h2, toBA_toList]; exact Ev.now _
theorem line_f (b : BodyS) (c : UInt8) (hl : b.line.length ≤ 100000) : Ev (fun k => lineF k b c) (lineL b c) := by
  unfold lineF lineL
  by_cases h2 : b.line.length > 200
  · simp only [if_pos h2]; exact Ev.now _
  · simp only [if_neg h2]
    by_cases h10 : c.toNat ≠ 10
    · simp only [if_pos h10]; exact Ev.now _
    · simp only [if_neg h10]
      by_cases hc : crAt b.line = true
      · simp only [if_pos hc]
        exact whole_f _ _ (by rw [List.length_take]; omega)
      · simp only [if_neg hc]; exact Ev.now _
def FitB (b : BodyS) : Prop := b.data.length ≤ 600 ∧ (b.done = true ∨ b.line.length ≤ 200)
theorem feed_f (b : BodyS) (c : UInt8) (h : FitB b) : Ev (fun k => body_Body_Feed.f k b (c.toNat : Int)) (stepB b c) := by
  have hc := u8_lt c
  have hq : (0 : Int) ≤ (c.toNat : Int) ∧ (c.toNat : Int) ≤ 255 ∧ b.data.length ≤ 600 ∧ (b.done = true ∨ b.line.length ≤ 200) := ⟨by omega, by omega, h.1, h.2⟩
  have e : UInt8.ofNat (c.toNat : Int).toNat = c := by apply UInt8.toNat_inj.1; simp only [Int.toNat_natCast, UInt8.toNat_ofNat']; omega
  unfold body_Body_Feed.f
  simp only [if_pos hq, e]
  unfold feedF stepB
  by_cases hd : b.done = true
  · simp only [if_pos hd]; exact Ev.now _
  · simp only [if_neg hd]
    by_cases hch : b.ch = false
    · simp only [if_pos hch]; exact Ev.now _
    · simp only [if_neg hch]
      by_cases h1 : b.st = 1
      · simp only [if_pos h1]; exact Ev.now _
      · simp only [if_neg h1]
        have hl : b.line.length ≤ 200 := h.2.resolve_left hd
        exact line_f _ c (by show (b.line ++ [c]).length ≤ _; simp; omega)
theorem take_fit (b : BodyS) (c : UInt8) (h : b.data.length ≤ 600) : (takeB b c).data.length ≤ 600 ∧ (takeB b c).line = b.line := by
  unfold takeB
  split
  · exact ⟨h, rfl⟩
  · rename_i hn
    refine ⟨?_, rfl⟩
    show (b.data ++ [c]).length ≤ 600
    simp only [List.length_append, List.length_cons, List.length_nil]
    omega
theorem size_fit (b : BodyS) (n : Int) (ok : Bool) : (sizeB b n ok).data = b.data ∧ (sizeB b n ok).line = b.line := by
  unfold sizeB failB
  split
  · exact ⟨rfl, rfl⟩
  · split
    · exact ⟨rfl, rfl⟩
    · split <;> exact ⟨rfl, rfl⟩
theorem whole_fit (b : BodyS) (l : List UInt8) : (wholeL b l).data = b.data ∧ (wholeL b l).line = b.line := by
  unfold wholeL
  split
  · exact size_fit _ _ _
  · split
    · split <;> exact ⟨rfl, rfl⟩
    · exact ⟨rfl, rfl⟩
theorem step_fit (b : BodyS) (c : UInt8) (h : FitB b) : FitB (stepB b c) := by
  have ht := take_fit b c h.1
  unfold stepB
  split
  · exact h
  · rename_i hd
    have hl : b.line.length ≤ 200 := h.2.resolve_left hd
    split
    · exact ⟨ht.1, .inr (by show (takeB b c).line.length ≤ 200; rw [ht.2]; exact hl)⟩
    · split
      · split
        · exact ⟨ht.1, .inr (by show (takeB b c).line.length ≤ 200; rw [ht.2]; exact hl)⟩
        · exact ⟨ht.1, .inr (by rw [ht.2]; exact hl)⟩
      · unfold lineL
        split
        · exact ⟨h.1, .inl rfl⟩
        · rename_i h2
          split
          · split
            · exact ⟨h.1, .inl rfl⟩
            · exact ⟨h.1, .inr (by omega)⟩
          · split
            · have := whole_fit { { b with line := b.line ++ [c] } with line := [] } ((b.line ++ [c]).take ((b.line ++ [c]).length - 2))
              exact ⟨by rw [this.1]; exact h.1, .inr (by rw [this.2]; simp)⟩
            · exact ⟨h.1, .inl rfl⟩
/-- A body of bytes, and how many were taken till it was done. -/
def runB : BodyS → List UInt8 → BodyS × Nat
  | b, [] => (b, 0)
  | b, c :: s => if b.done = true then (b, 0) else ((runB (stepB b c) s).1, (runB (stepB b c) s).2 + 1)
theorem run_fit (s : List UInt8) : ∀ b, FitB b → FitB (runB b s).1 := by
  induction s with
  | nil => intro b h; exact h
  | cons c r ih =>
    intro b h
    rw [runB]
    split
    · exact h
    · exact ih _ (step_fit b c h)
def runT (p : BodyS × Nat) (n : Nat) : BodyS × Int := (p.1, ((n + p.2 : Nat) : Int))
theorem lawFeed_l (s : List UInt8) (hs : s.length ≤ 4611686018427387904) (post : List UInt8) : ∀ (pre : List UInt8) (b : BodyS), s = pre ++ post → FitB b →
    Ev (fun k => lawFeedL k (toBA s) b (pre.length : Int)) (runT (runB b post) pre.length) := by
  induction post with
  | nil =>
    intro pre b h hb
    have hp : pre.length = s.length := by subst h; simp
    refine Ev.step' ?_
    simp only [lawFeedL, toBA_size, if_neg (show ¬ (pre.length : Int) < (s.length : Int) by omega)]
    exact Ev.now _
  | cons c r ih =>
    intro pre b h hb
    have hp : pre.length < s.length := by subst h; simp
    have hbt : bt (toBA s) (pre.length : Int) = (c.toNat : Int) := by subst h; exact bt_mid _ _ _
    have hw : wrap64 ((pre.length : Int) + 1) = ((pre ++ [c]).length : Int) := by rw [w64 (by omega) (by omega)]; simp
    refine Ev.step' ?_
    simp only [lawFeedL, toBA_size, if_pos (show (pre.length : Int) < (s.length : Int) by omega), if_pos (show (0 : Int) ≤ (pre.length : Int) by omega), hbt, hw]
    rw [runB]
    by_cases hd : b.done = true
    · simp only [if_pos hd]; exact Ev.now _
    · simp only [if_neg hd]
      refine Ev.bind (feed_f b c hb) ?_
      have := ih (pre ++ [c]) (stepB b c) (by simp [h]) (step_fit b c hb)
      have e : runT (runB (stepB b c) r) (pre ++ [c]).length = runT ((runB (stepB b c) r).1, (runB (stepB b c) r).2 + 1) pre.length := by
        unfold runT
        simp only [List.length_append, List.length_cons, List.length_nil]
        congr 2
        omega
      rw [← e]
      exact this
theorem newB_fit (n : Int) : FitB (newB n) := ⟨by simp [newB], .inr (by simp [newB])⟩
theorem lawFeed_f (n : Int) (s : List UInt8) (hs : s.length ≤ 4611686018427387904) : Ev (fun k => crossroadlaw03_Feed.f k n (toBA s)) ((runB (newB n) s).1, ((runB (newB n) s).2 : Int)) := by
  have := lawFeed_l s hs s [] (newB n) rfl (newB_fit n)
  unfold crossroadlaw03_Feed.f
  simpa [runT] using this
theorem Ev.ofMono {α : Type} {g : Nat → Option α} {r : α} (hm : ∀ k, LeO (g k) (g (k + 1))) (k : Nat) (h : g k = some r) : Ev g r := by
  refine ⟨k, fun k' hk => ?_⟩
  obtain ⟨m, rfl⟩ : ∃ m, k' = k + m := ⟨k' - k, by omega⟩
  clear hk
  induction m with
  | zero => exact h
  | succ m ih => exact hm (k + m) r ih
theorem fit_f : Ev (fun k => crossroadlaw03_fit.f k) true := Ev.ofMono crossroadlaw03_fit.mono 40 (by decide +kernel)
end Go.Proofs.Ytkdmjkoojipofaa.M
