-- Made smaller by wip/squeeze.py out of this claim's texts. Not trusted: Lean checks it.
import Derived.Test.YtldaingkcnmaoaaDoorXWords
import Derived.Test.YtldaingkcnmaoaaDoorProg
set_option linter.unusedVariables false
set_option linter.unusedSimpArgs false
namespace Go.Proofs.YtldaingkcnmaoaaDoorW.PrintWords
open Go.RowKit
structure BodyS where
  ch : Bool
  left : Int
  st : Int
  line : List UInt8
  data : List UInt8
  status : Int
  done : Bool
deriving DecidableEq
def nts (l : List UInt8) : List Int := l.map fun b => (b.toNat : Int)
theorem nts_len (l : List UInt8) : (nts l).length = l.length := by simp [nts]
theorem nts_snoc (l : List UInt8) (c : UInt8) : nts (l ++ [c]) = nts l ++ [(c.toNat : Int)] := by simp [nts]
def OwnBytes (w : World) (base : Nat) (v : Value) (l : List UInt8) : Prop := w.ownsRow base 5 1 v l.length (nums .u8 (nts l))
structure Base where
  n : Nat
  J : Nat → Obj → Prop
instance : CoeOut Base Nat := ⟨Base.n⟩
def bas (n : Nat) : Base := ⟨n, fun _ _ => False⟩
structure BodyAt (w : World) (base : Base) (g : Nat) (vl vd : Value) (b : BodyS) : Prop where
  ge : base.n ≤ g
  blk : w.heap[g]? = some (.cells #[.bool b.ch, .int .i64 b.left, .int .i64 b.st, vl, vd, .int .i64 b.status, .bool b.done] 70 (0, 0))
  line : OwnBytes w base.n vl b.line
  data : OwnBytes w base.n vd b.data
  apart : vl.ownBlock = none ∨ vl.ownBlock ≠ vd.ownBlock
  kept : ∀ j o, base.J j o → w.heap[j]? = some o ∧ j ≠ g ∧ some j ≠ vl.ownBlock ∧ some j ≠ vd.ownBlock
def BodyOwn (w : World) (base : Base) (v : Value) (b : BodyS) : Prop := ∃ g vl vd, v = .pointer (some ⟨g, 0, none⟩) ∧ BodyAt w base g vl vd b
section
variable {w w1 : World} {nb : Nat} {base : Base} {g : Nat} {vl vd v : Value} {b : BodyS}
theorem bel_less {B B' : Nat} (h : Below B w w1) (hle : B' ≤ B) : Below B' w w1 := ⟨h.os, h.tape, h.output, h.size, fun i hi => h.block i (Nat.lt_of_lt_of_le hi hle)⟩
theorem OwnBytes.ne {l : List UInt8} {cs : Array Value} {t : TypeId} (h : OwnBytes w nb v l) (hb : w.heap[g]? = some (.cells cs t (0, 0))) (ht : t ≠ 5) : some g ≠ v.ownBlock := own_ne h hb (fun e => ht e.symm)
theorem OwnBytes.set {l : List UInt8} (h : OwnBytes w nb v l) {p : Addr} (hne : some p.block ≠ v.ownBlock) (u : Value) : OwnBytes (w.setCell p u) nb v l := own_setCell h hne u
theorem BodyAt.keepSet (h : BodyAt w base g vl vd b) (i : Nat) (u : Value) : ∀ j o, base.J j o → (w.setCell ⟨g, i, none⟩ u).heap[j]? = some o ∧ j ≠ g ∧ some j ≠ vl.ownBlock ∧ some j ≠ vd.ownBlock := fun j o hj => by
  obtain ⟨h1, h2, h3⟩ := h.kept j o hj
  exact ⟨(Below.heap_setCell w ⟨g, i, none⟩ u j h2).trans h1, h2, h3⟩
theorem BodyAt.neL (h : BodyAt w base g vl vd b) : some g ≠ vl.ownBlock := h.line.ne h.blk (by decide)
theorem BodyAt.neD (h : BodyAt w base g vl vd b) : some g ≠ vd.ownBlock := h.data.ne h.blk (by decide)
theorem BodyAt.setDone (h : BodyAt w base g vl vd b) (x : Bool) : BodyAt (w.setCell ⟨g, 6, none⟩ (.bool x)) base g vl vd { b with done := x } :=
  ⟨h.ge, by simpa using blk_set h.blk 6 (.bool x), h.line.set h.neL _, h.data.set h.neD _, h.apart, h.keepSet 6 (.bool x)⟩
theorem BodyAt.setStatus (h : BodyAt w base g vl vd b) (x : Int) : BodyAt (w.setCell ⟨g, 5, none⟩ (.int .i64 x)) base g vl vd { b with status := x } :=
  ⟨h.ge, by simpa using blk_set h.blk 5 (.int .i64 x), h.line.set h.neL _, h.data.set h.neD _, h.apart, h.keepSet 5 (.int .i64 x)⟩
theorem BodyAt.setSt (h : BodyAt w base g vl vd b) (x : Int) : BodyAt (w.setCell ⟨g, 2, none⟩ (.int .i64 x)) base g vl vd { b with st := x } :=
  ⟨h.ge, by simpa using blk_set h.blk 2 (.int .i64 x), h.line.set h.neL _, h.data.set h.neD _, h.apart, h.keepSet 2 (.int .i64 x)⟩
theorem BodyAt.setLeft (h : BodyAt w base g vl vd b) (x : Int) : BodyAt (w.setCell ⟨g, 1, none⟩ (.int .i64 x)) base g vl vd { b with left := x } :=
  ⟨h.ge, by simpa using blk_set h.blk 1 (.int .i64 x), h.line.set h.neL _, h.data.set h.neD _, h.apart, h.keepSet 1 (.int .i64 x)⟩
theorem BodyAt.nilLine (h : BodyAt w base g vl vd b) : BodyAt (w.setCell ⟨g, 3, none⟩ (.slice none 0 0)) base g (.slice none 0 0) vd { b with line := [] } :=
  ⟨h.ge, by simpa using blk_set h.blk 3 (.slice none 0 0), own_nil _ _ _ _, h.data.set h.neD _, .inl rfl, fun j o hj => by obtain ⟨h1, h2, _, h4⟩ := h.keepSet 3 (.slice none 0 0) j o hj; exact ⟨h1, h2, by simp [Value.ownBlock], h4⟩⟩
theorem BodyAt.addData {v1 : Value} {l : List UInt8} (h : BodyAt w base g vl vd b) (ho : OwnBytes w1 base v1 l) (hg : w.grownBy w1 vd.ownBlock) (hat : v1.ownBlock = vd.ownBlock ∨ ∃ k, v1.ownBlock = some k ∧ w.heap.size ≤ k) :
    BodyAt (w1.setCell ⟨g, 4, none⟩ v1) base g vl v1 { b with data := l } := by
  have hb := blk_grown h.blk hg h.neD
  have hl : OwnBytes w1 base vl b.line := own_other h.line hg h.apart
  have hne : some g ≠ v1.ownBlock := ho.ne hb (by decide)
  refine ⟨h.ge, by simpa using blk_set hb 4 v1, hl.set (hl.ne hb (by decide)) _, ho.set hne _, ?_, fun j o hj => ?_⟩
  rotate_left
  · obtain ⟨h1, h2, h3, h4⟩ := h.kept j o hj
    refine ⟨(Below.heap_setCell w1 ⟨g, 4, none⟩ v1 j h2).trans (blk_grown h1 hg h4), h2, h3, ?_⟩
    rcases hat with e | ⟨k, e, hk⟩
    · rw [e]; exact h4
    · rw [e]; intro e2; injection e2 with e2; have := blk_lt h1; omega
  rcases hat with e | ⟨k, e, hk⟩
  · rw [e]; exact h.apart
  · rw [e]
    cases hv : vl.ownBlock with
    | none => exact .inl rfl
    | some j =>
      refine .inr fun e2 => ?_
      have := own_lt h.line j hv
      injection e2 with e2
      omega
theorem BodyAt.addLine {v1 : Value} {l : List UInt8} (h : BodyAt w base g vl vd b) (ho : OwnBytes w1 base v1 l) (hg : w.grownBy w1 vl.ownBlock) (hat : v1.ownBlock = vl.ownBlock ∨ ∃ k, v1.ownBlock = some k ∧ w.heap.size ≤ k) :
    BodyAt (w1.setCell ⟨g, 3, none⟩ v1) base g v1 vd { b with line := l } := by
  have hb := blk_grown h.blk hg h.neL
  have hap : vd.ownBlock = none ∨ vd.ownBlock ≠ vl.ownBlock := by
    rcases h.apart with e | e
    · cases hv : vd.ownBlock with
      | none => exact .inl rfl
      | some j => exact .inr (by rw [e]; simp)
    · exact .inr (Ne.symm e)
  have hl : OwnBytes w1 base vd b.data := own_other h.data hg hap
  have hne : some g ≠ v1.ownBlock := ho.ne hb (by decide)
  refine ⟨h.ge, by simpa using blk_set hb 3 v1, ho.set hne _, hl.set (hl.ne hb (by decide)) _, ?_, fun j o hj => ?_⟩
  rotate_left
  · obtain ⟨h1, h2, h3, h4⟩ := h.kept j o hj
    refine ⟨(Below.heap_setCell w1 ⟨g, 3, none⟩ v1 j h2).trans (blk_grown h1 hg h3), h2, ?_, h4⟩
    rcases hat with e | ⟨k, e, hk⟩
    · rw [e]; exact h3
    · rw [e]; intro e2; injection e2 with e2; have := blk_lt h1; omega
  rcases hat with e | ⟨k, e, hk⟩
  · rw [e]; exact h.apart
  · rw [e]
    refine .inr fun e2 => ?_
    have := own_lt h.data k e2.symm
    omega
theorem BodyAt.below (h : BodyAt w base g vl vd b) (hb : Below w.heap.size w w1) : BodyAt w1 base g vl vd b :=
  ⟨h.ge, blk_grown h.blk (grown_of_below hb none) (by simp), pw_own_below h.line hb, pw_own_below h.data hb, h.apart, fun j o hj => by obtain ⟨h1, h2⟩ := h.kept j o hj; exact ⟨blk_grown h1 (grown_of_below hb none) (by simp), h2⟩⟩
theorem BodyAt.drewN {n : Nat} (h : BodyAt w base g vl vd b) : BodyAt (w.drewN n) base g vl vd b := h.below (pw_below_drewN (Below.refl _ _) n)
theorem BodyOwn.below (h : BodyOwn w base v b) (hb : Below w.heap.size w w1) : BodyOwn w1 base v b := by
  obtain ⟨g, vl, vd, rfl, h⟩ := h
  exact ⟨g, vl, vd, rfl, h.below hb⟩
theorem BodyOwn.alloc {o : Obj} (h : BodyOwn w base v b) : BodyOwn (w.alloc o) base v b := h.below (below_alloc (Below.refl _ _) o)
theorem BodyOwn.drewN {n : Nat} (h : BodyOwn w base v b) : BodyOwn (w.drewN n) base v b := h.below (pw_below_drewN (Below.refl _ _) n)
theorem BodyOwn.drew (h : BodyOwn w base v b) : BodyOwn w.drew base v b := h.below (below_drew (Below.refl _ _))
theorem BodyAt.less {n m : Nat} (h : BodyAt w (bas n) g vl vd b) (hle : m ≤ n) : BodyAt w (bas m) g vl vd b :=
  ⟨Nat.le_trans hle h.ge, h.blk, own_less h.line hle, own_less h.data hle, h.apart, fun _ _ hj => hj.elim⟩
theorem BodyOwn.less {n m : Nat} (h : BodyOwn w (bas n) v b) (hle : m ≤ n) : BodyOwn w (bas m) v b := by
  obtain ⟨g, vl, vd, rfl, h⟩ := h
  exact ⟨g, vl, vd, rfl, h.less hle⟩
end
end Go.Proofs.YtldaingkcnmaoaaDoorW.PrintWords
