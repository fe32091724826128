-- Made smaller by wip/squeeze.py out of this claim's texts. Not trusted: Lean checks it.
import Derived.Test.YtldaingkcnmaoaaDoorX2
set_option linter.unusedVariables false
set_option linter.unusedSimpArgs false
namespace Go.Proofs.YtldaingkcnmaoaaDoor.X
open Go.RowKit Go.Proofs.YtldaingkcnmaoaaDoorW.PrintWords Go.Proofs.YtldaingkcnmaoaaDoorW.PrintLast Go.Proofs.YtldaingkcnmaoaaDoorW.PrintMore
attribute [local go_sem] max2_int min2_int max_two min_two max_three min_three max_four min_four
def newB (n : Int) : BodyS := { ch := decide (n < 0), left := if n < 0 then 0 else n, st := 0, line := [], data := [], status := 0, done := n == 0 }
def body_New.f (a0 : Int) : Option BodyS := some (newB a0)
theorem body_new_at (w : World) (b : BodyS) (hl : b.line = []) (hd : b.data = []) :
    BodyAt (w.alloc (.cells #[.bool b.ch, .int .i64 b.left, .int .i64 b.st, .slice none 0 0, .slice none 0 0, .int .i64 b.status, .bool b.done] 70)) (bas w.heap.size) w.heap.size (.slice none 0 0) (.slice none 0 0) b :=
  ⟨Nat.le_refl _, by simpa using heap_alloc_new w _, by unfold OwnBytes; rw [hl]; exact own_nil _ _ _ _, by unfold OwnBytes; rw [hd]; exact own_nil _ _ _ _, .inl rfl, fun _ _ hj => hj.elim⟩
set_option maxRecDepth 100000 in
theorem body_New.calls (a0 : Int) (r : BodyS) (w : World) (h : body_New.f a0 = some r) :
    Calls Tryd.prog 19 #[.int .i64 a0] w fun e w' => ∃ V, e = .returned V ∧ BodyOwn w' (bas w.heap.size) V r ∧ Below w.heap.size w w' := by
  have hr := Option.some.inj h
  clear h
  by_cases hn : a0 < 0
  · have HR := Lib.hid (show r = { ({ ch := true, left := 0, st := 0, line := [], data := [], status := 0, done := false } : BodyS) with done := false } by
      rw [← hr, newB]; simp [hn, show ¬ a0 = 0 by omega])
    have t1 : decide (a0 < 0) = true := decide_eq_true hn
    have t2 : (a0 == 0) = false := beq_eq_false_iff_ne.2 (by omega)
    clear hr
    go_enter Tryd.func19, Tryd.ntmps19
    go_wp2
    go_ret
    exact ⟨_, rfl, ⟨w.heap.size, _, _, rfl, by rw [HR.out]; exact body_new_at w { ch := true, left := 0, st := 0, line := [], data := [], status := 0, done := false } rfl rfl⟩, (Below.refl _ _).alloc (Nat.le_refl _) _⟩
  · have t1 : decide (a0 < 0) = false := decide_eq_false hn
    have HR := Lib.hid (show r = { ({ ch := false, left := a0, st := 0, line := [], data := [], status := 0, done := false } : BodyS) with done := (a0 == 0) } by
      rw [← hr, newB]; simp [hn])
    have t3 : 0 ≤ a0 := by omega
    clear hr hn
    go_enter Tryd.func19, Tryd.ntmps19
    go_wp2
    go_ret
    exact ⟨_, rfl, ⟨w.heap.size, _, _, rfl, by rw [HR.out]; exact body_new_at w { ch := false, left := a0, st := 0, line := [], data := [], status := 0, done := (a0 == 0) } rfl rfl⟩, (Below.refl _ _).alloc (Nat.le_refl _) _⟩
end Go.Proofs.YtldaingkcnmaoaaDoor.X
namespace Go.Proofs.YtldaingkcnmaoaaDoor.X
open Go.RowKit Go.Proofs.YtldaingkcnmaoaaDoorW.PrintWords Go.Proofs.YtldaingkcnmaoaaDoorW.PrintLast Go.Proofs.YtldaingkcnmaoaaDoorW.PrintMore
attribute [local go_sem] max2_int min2_int max_two min_two max_three min_three max_four min_four
structure CutS where
  wait : ByteArray
  lines : List ByteArray
  line : List UInt8
  size : Int
  hm : ByteArray
  ht : ByteArray
  hf : List S62
  hb : ByteArray
  hc : Bool
  hl : Int
  hs : Int
  body : Option BodyS
  status : Int
  done : Bool
structure CutAt (w : World) (n g : Nat) (vs vl vf vb : Value) (c : CutS) : Prop where
  ge : n ≤ g
  blk : w.heap[g]? = some (.cells #[.string c.wait, vs, vl, .int .i64 c.size, .string c.hm, .string c.ht, vf, .string c.hb, .bool c.hc, .int .i64 c.hl, .int .i64 c.hs, vb, .int .i64 c.status, .bool c.done] 59 (0, 0))
  lines : Kd.R Kd.string 9 w n (fun _ => True) vs c.lines
  line : OwnBytes w n vl c.line
  body : c.body = none ∧ vb = .pointer none ∨ ∃ b, c.body = some b ∧ c.line = [] ∧ vl = .slice none 0 0 ∧ BodyOwn w (bas n) vb b ∧ Kd.R k62 62 w n (fun _ => True) vf c.hf
def CutOwn (w : World) (n : Nat) (v : Value) (c : CutS) : Prop := ∃ g vs vl vf vb, v = .pointer (some ⟨g, 0, none⟩) ∧ CutAt w n g vs vl vf vb c
section
variable {w w1 : World} {n g i : Nat} {vs vl vf vb v : Value} {b : BodyS} {c : CutS} {cs : Array Value} {u : Value}
theorem bodyOwn_far (h : BodyOwn w (bas n) v b) (hb : w.heap[g]? = some (.cells cs 59 (0, 0))) : BodyOwn (w.setCell ⟨g, i, none⟩ u) (bas n) v b := by
  obtain ⟨g', ul, ud, rfl, h⟩ := h
  have hne : g' ≠ g := blk_ne h.blk hb (by decide)
  exact ⟨g', ul, ud, rfl, h.ge, blk_far h.blk hne u, h.line.set (own_ne h.line hb (by decide)) u, h.data.set (own_ne h.data hb (by decide)) u, h.apart, fun _ _ hj => hj.elim⟩
theorem CutAt.bodyFar (h : CutAt w n g vs vl vf vb c) : c.body = none ∧ vb = .pointer none ∨ ∃ b, c.body = some b ∧ c.line = [] ∧ vl = .slice none 0 0 ∧ BodyOwn (w.setCell ⟨g, i, none⟩ u) (bas n) vb b ∧ Kd.R k62 62 (w.setCell ⟨g, i, none⟩ u) n (fun _ => True) vf c.hf := by
  rcases h.body with hb | ⟨b, h1, h2, h3, h4, h5⟩
  · exact .inl hb
  · exact .inr ⟨b, h1, h2, h3, bodyOwn_far h4 h.blk, Kd.R_set h5 h.blk (by intro q hq; revert q; decide) i u⟩
theorem CutAt.linesFar (h : CutAt w n g vs vl vf vb c) : Kd.R Kd.string 9 (w.setCell ⟨g, i, none⟩ u) n (fun _ => True) vs c.lines := Kd.R_set h.lines h.blk (by intro q hq; revert q; decide) i u
theorem CutAt.lineFar (h : CutAt w n g vs vl vf vb c) : OwnBytes (w.setCell ⟨g, i, none⟩ u) n vl c.line := h.line.set (own_ne h.line h.blk (by decide)) u
theorem CutAt.setWait (h : CutAt w n g vs vl vf vb c) (x : ByteArray) : CutAt (w.setCell ⟨g, 0, none⟩ (.string x)) n g vs vl vf vb { c with wait := x } := ⟨h.ge, by simpa using blk_set h.blk 0 (.string x), h.linesFar, h.lineFar, h.bodyFar⟩
theorem CutAt.setSize (h : CutAt w n g vs vl vf vb c) (x : Int) : CutAt (w.setCell ⟨g, 3, none⟩ (.int .i64 x)) n g vs vl vf vb { c with size := x } := ⟨h.ge, by simpa using blk_set h.blk 3 (.int .i64 x), h.linesFar, h.lineFar, h.bodyFar⟩
theorem CutAt.setStatus (h : CutAt w n g vs vl vf vb c) (x : Int) : CutAt (w.setCell ⟨g, 12, none⟩ (.int .i64 x)) n g vs vl vf vb { c with status := x } := ⟨h.ge, by simpa using blk_set h.blk 12 (.int .i64 x), h.linesFar, h.lineFar, h.bodyFar⟩
theorem CutAt.setDone (h : CutAt w n g vs vl vf vb c) (x : Bool) : CutAt (w.setCell ⟨g, 13, none⟩ (.bool x)) n g vs vl vf vb { c with done := x } := ⟨h.ge, by simpa using blk_set h.blk 13 (.bool x), h.linesFar, h.lineFar, h.bodyFar⟩
theorem CutAt.nilLines (h : CutAt w n g vs vl vf vb c) : CutAt (w.setCell ⟨g, 1, none⟩ (.slice none 0 0)) n g (.slice none 0 0) vl vf vb { c with lines := [] } := ⟨h.ge, by simpa using blk_set h.blk 1 (.slice none 0 0), Kd.R_nil _ _ _ _ _, h.lineFar, h.bodyFar⟩
theorem CutAt.noBody (h : CutAt w n g vs vl vf vb c) : CutAt (w.setCell ⟨g, 11, none⟩ (.pointer none)) n g vs vl vf (.pointer none) { c with body := none } := ⟨h.ge, by simpa using blk_set h.blk 11 (.pointer none), h.linesFar, h.lineFar, .inl ⟨rfl, rfl⟩⟩
theorem CutAt.below (h : CutAt w n g vs vl vf vb c) (hb : Below w.heap.size w w1) : CutAt w1 n g vs vl vf vb c :=
  ⟨h.ge, blk_grown h.blk (grown_of_below hb none) (by simp), Kd.R_below h.lines hb, pw_own_below h.line hb, by
    rcases h.body with h1 | ⟨b, h1, h2, h3, h4, h5⟩
    · exact .inl h1
    · exact .inr ⟨b, h1, h2, h3, h4.below hb, Kd.R_below h5 hb⟩⟩
end
def Other (o : Obj) : Prop := ∀ cs t z, o = .cells cs t z → t ≠ 59 ∧ t ≠ 70 ∧ t ≠ 9 ∧ t ≠ 5
structure CutFrame (n : Nat) (w w1 : World) : Prop where
  below : Below n w w1
  other : ∀ (j : Nat) (o : Obj), w.heap[j]? = some o → Other o → w1.heap[j]? = some o
theorem CutFrame.refl (n : Nat) (w : World) : CutFrame n w w := ⟨Below.refl _ _, fun _ _ h _ => h⟩
theorem CutFrame.trans {n : Nat} {w w1 w2 : World} (h : CutFrame n w w1) (k : CutFrame n w1 w2) : CutFrame n w w2 := ⟨h.below.trans k.below, fun j o hj ho => k.other j o (h.other j o hj ho) ho⟩
theorem CutFrame.ofBelow {n : Nat} {w w1 : World} (h : Below w.heap.size w w1) (hn : n ≤ w.heap.size) : CutFrame n w w1 := ⟨bel_less h hn, fun j o hj _ => (h.block j (blk_lt hj)).trans hj⟩
theorem CutFrame.set {n g i : Nat} {w w1 : World} {cs : Array Value} {u : Value} (h : CutFrame n w w1) (hb : w1.heap[g]? = some (.cells cs 59 (0, 0))) (hg : n ≤ g) : CutFrame n w (w1.setCell ⟨g, i, none⟩ u) :=
  ⟨h.below.setCell hg _, fun j o hj ho => by
    have h1 := h.other j o hj ho
    have hne : j ≠ g := by
      rintro rfl
      rw [h1] at hb
      exact (ho _ _ _ (Option.some.inj hb)).1 rfl
    exact (Below.heap_setCell w1 ⟨g, i, none⟩ u j hne).trans h1⟩
section
variable {w w0 w1 : World} {n g i k : Nat} {vs vl vf vb v : Value} {b : BodyS} {c : CutS} {cs : Array Value} {u : Value}
theorem bodyOwn_req (h : BodyOwn w (bas n) v b) (hb : w.heap[k]? = some (.cells cs 31 (0, 0))) : BodyOwn (w.setCell ⟨k, i, none⟩ u) (bas n) v b := by
  obtain ⟨g', ul, ud, rfl, h⟩ := h
  have hne : g' ≠ k := blk_ne h.blk hb (by decide)
  exact ⟨g', ul, ud, rfl, h.ge, blk_far h.blk hne u, h.line.set (own_ne h.line hb (by decide)) u, h.data.set (own_ne h.data hb (by decide)) u, h.apart, fun _ _ hj => hj.elim⟩
theorem CutAt.req (h : CutAt w n g vs vl vf vb c) (hb : w.heap[k]? = some (.cells cs 31 (0, 0))) (i : Nat) (u : Value) : CutAt (w.setCell ⟨k, i, none⟩ u) n g vs vl vf vb c :=
  ⟨h.ge, blk_far h.blk (blk_ne h.blk hb (by decide)) u, Kd.R_set h.lines hb (by intro q hq; revert q; decide) i u, h.line.set (own_ne h.line hb (by decide)) u, by
    rcases h.body with h1 | ⟨b, h1, h2, h3, h4, h5⟩
    · exact .inl h1
    · exact .inr ⟨b, h1, h2, h3, bodyOwn_req h4 hb, Kd.R_set h5 hb (by intro q hq; revert q; decide) i u⟩⟩
theorem CutFrame.fresh (h : CutFrame n w w1) (hk : w.heap.size ≤ k) (hn : n ≤ k) (i : Nat) (u : Value) : CutFrame n w (w1.setCell ⟨k, i, none⟩ u) :=
  ⟨h.below.setCell hn _, fun j o hj ho => (Below.heap_setCell w1 ⟨k, i, none⟩ u j (by have := blk_lt hj; show j ≠ k; omega)).trans (h.other j o hj ho)⟩
end
def newC : CutS := { wait := ⟨#[]⟩, lines := [], line := [], size := 0, hm := ⟨#[]⟩, ht := ⟨#[]⟩, hf := [], hb := ⟨#[]⟩, hc := false, hl := 0, hs := 0, body := none, status := 0, done := false }
def cutter_New.f : Option CutS := some newC
set_option maxRecDepth 100000 in
theorem cutter_New.calls (r : CutS) (w : World) (h : cutter_New.f = some r) :
    Calls Tryd.prog 11 #[] w fun e w' => ∃ V, e = .returned V ∧ CutOwn w' w.heap.size V r ∧ Below w.heap.size w w' := by
  have hr := Option.some.inj h
  subst hr
  clear h
  go_enter Tryd.func11, Tryd.ntmps11
  go_wp2
  go_ret
  exact ⟨_, rfl, ⟨w.heap.size, .slice none 0 0, .slice none 0 0, .slice none 0 0, .pointer none, rfl, Nat.le_refl _, heap_alloc_new w _, Kd.R_nil _ _ _ _ _, own_nil _ _ _ _, .inl ⟨rfl, rfl⟩⟩, (Below.refl _ _).alloc (Nat.le_refl _) _⟩
def failC (c : CutS) (s : Int) : CutS := { c with done := true, status := s, wait := ⟨#[]⟩ }
def cutter_Cutter_fail.f (a0 : CutS) (a1 : Int) : Option CutS := some (failC a0 a1)
set_option maxRecDepth 100000 in
theorem cut_fail (n g : Nat) (vs vl vf vb : Value) (c : CutS) (s : Int) (w : World) (h : CutAt w n g vs vl vf vb c) :
    Calls Tryd.prog 34 #[.pointer (some ⟨g, 0, none⟩), .int .i64 s] w fun e w' => e = .returned (.tuple #[]) ∧ CutAt w' n g vs vl vf vb (failC c s) ∧ CutFrame n w w' := by
  have c0 : w.cell? ⟨g, 0, none⟩ = some (.string c.wait) := (blk_cell h.blk 0).trans rfl
  have c12 : w.cell? ⟨g, 12, none⟩ = some (.int .i64 c.status) := (blk_cell h.blk 12).trans rfl
  have c13 : w.cell? ⟨g, 13, none⟩ = some (.bool c.done) := (blk_cell h.blk 13).trans rfl
  have f0 := blk_frozen h.blk 0
  have f12 := blk_frozen h.blk 12
  have f13 := blk_frozen h.blk 13
  have H := Lib.hid h
  clear h
  go_enter Tryd.func34, Tryd.ntmps34
  go_wp2
  first | go_end0 | ((try simp only [Exit.inBlock, Exit.then]); refine bodyPost_ret (results_none rfl _ _ _) rfl ?_)
  have h1 := H.out.setDone true
  have h2 := h1.setStatus s
  have h3 := h2.setWait ⟨#[]⟩
  exact ⟨rfl, h3, (((CutFrame.refl n w).set H.out.blk H.out.ge).set h1.blk h1.ge).set h2.blk h2.ge⟩
def cutter_Cutter_Status.f (a0 : CutS) : Option Int := some a0.status
set_option maxRecDepth 100000 in
theorem cutter_Cutter_Status.calls (V : Value) (n : Nat) (a0 : CutS) (r : Int) (w : World) (hO : CutOwn w n V a0) (h : cutter_Cutter_Status.f a0 = some r) :
    Calls Tryd.prog 15 #[V] w fun e w' => e = .returned (.int .i64 r) ∧ Drawn0 w w' := by
  obtain ⟨g, vs, vl, vf, vb, rfl, hb⟩ := hO
  obtain rfl := Option.some.inj h
  clear h
  have c12 : w.cell? ⟨g, 12, none⟩ = some (.int .i64 a0.status) := (blk_cell hb.blk 12).trans rfl
  clear hb
  go_enter Tryd.func15, Tryd.ntmps15
  go_wp2
  go_ret
  exact ⟨rfl, Drawn0.refl _⟩
def feedC (c : CutS) (s : ByteArray) : CutS := if c.done = true then c else { c with wait := c.wait ++ s }
def cutter_Cutter_Feed.f (a0 : CutS) (a1 : ByteArray) : Option CutS := if a0.wait.size + a1.size ≤ 9223372036854775807 then some (feedC a0 a1) else none
set_option maxRecDepth 100000 in
theorem cutter_Cutter_Feed.calls (V : Value) (n : Nat) (a0 : CutS) (a1 : ByteArray) (r : CutS) (w : World) (hO : CutOwn w n V a0) (h : cutter_Cutter_Feed.f a0 a1 = some r) :
    Calls Tryd.prog 12 #[V, .string a1] w fun e w' => e = .returned (.tuple #[]) ∧ CutOwn w' n V r ∧ CutFrame n w w' := by
  obtain ⟨g, vs, vl, vf, vb, rfl, hb⟩ := hO
  unfold cutter_Cutter_Feed.f at h
  by_cases hs : a0.wait.size + a1.size ≤ 9223372036854775807
  · rw [if_pos hs] at h
    obtain rfl := Option.some.inj h
    clear h
    have c0 : w.cell? ⟨g, 0, none⟩ = some (.string a0.wait) := (blk_cell hb.blk 0).trans rfl
    have c13 : w.cell? ⟨g, 13, none⟩ = some (.bool a0.done) := (blk_cell hb.blk 13).trans rfl
    have f0 := blk_frozen hb.blk 0
    have H := Lib.hid hb
    have q1 : (9223372036854775807 < a0.wait.size + a1.size) = False := eq_false (by omega)
    clear hb hs
    by_cases hd : a0.done = true
    · have HR := Lib.hid (show feedC a0 a1 = a0 by rw [feedC, if_pos hd])
      rw [hd] at c13
      clear hd
      go_enter Tryd.func12, Tryd.ntmps12
      go_wp2
      first | go_ret | go_end0 | ((try simp only [Exit.inBlock, Exit.then]); refine bodyPost_ret (results_none rfl _ _ _) rfl ?_)
      exact ⟨rfl, ⟨g, vs, vl, vf, vb, rfl, by rw [HR.out]; exact H.out⟩, CutFrame.refl _ _⟩
    · have HR := Lib.hid (show feedC a0 a1 = { a0 with wait := a0.wait ++ a1 } by rw [feedC, if_neg hd])
      rw [show a0.done = false by simpa using hd] at c13
      clear hd
      go_enter Tryd.func12, Tryd.ntmps12
      go_wp2
      first | go_ret | go_end0 | ((try simp only [Exit.inBlock, Exit.then]); refine bodyPost_ret (results_none rfl _ _ _) rfl ?_)
      exact ⟨rfl, ⟨g, vs, vl, vf, vb, rfl, by rw [HR.out]; exact H.out.setWait _⟩, (CutFrame.refl n w).set H.out.blk H.out.ge⟩
  · rw [if_neg hs] at h; cases h
end Go.Proofs.YtldaingkcnmaoaaDoor.X
namespace Go.Proofs.YtldaingkcnmaoaaDoor.X
open Go.RowKit Go.Proofs.YtldaingkcnmaoaaDoorW.PrintWords Go.Proofs.YtldaingkcnmaoaaDoorW.PrintLast Go.Proofs.YtldaingkcnmaoaaDoorW.PrintMore
attribute [local go_sem] max2_int min2_int max_two min_two max_three min_three max_four min_four
def endC (c : CutS) : CutS := if c.hc = true then failC { c with body := none, size := 0, lines := [] } 0 else { c with body := none, size := 0, lines := [] }
set_option maxHeartbeats 1000000 in
set_option maxRecDepth 100000 in
theorem cut_end_bad (n g : Nat) (vs vl vf vb : Value) (c : CutS) (b : BodyS) (w : World) (h : CutAt w n g vs vl vf vb c) (hb : BodyOwn w (bas n) vb b) (hs : b.status ≠ 0) :
    Calls Tryd.prog 23 #[.pointer (some ⟨g, 0, none⟩)] w fun e w' => e = .returned (.tuple #[.agg #[.string ⟨#[]⟩, .string ⟨#[]⟩, .slice none 0 0, .string ⟨#[]⟩, .bool false], .bool false]) ∧ CutAt w' n g vs vl vf vb (failC c b.status) ∧ CutFrame n w w' := by
  have c11 : w.cell? ⟨g, 11, none⟩ = some vb := (blk_cell h.blk 11).trans rfl
  have t1 : (b.status != 0) = true := bne_iff_ne.2 hs
  have H := Lib.hid h
  have HO := Lib.hid hb
  have HG := Lib.hid (blk_lt h.blk)
  clear h hb hs
  go_enter Tryd.func23, Tryd.ntmps23
  go_wp2_with (first
    | ((with_reducible refine gate_dst (N := 2) rfl ?_); refine box_event ?hg (N := 2) ?hd (cs := #[.string (⟨#[]⟩ : ByteArray), .string (⟨#[]⟩ : ByteArray), .slice none 0 0, .string (⟨#[]⟩ : ByteArray), .bool false]) (t := 31) ?hr ?_; (case hd => rfl); (case hg => rfl); (case hr => first | (go_simp; done) | (go_simp; rfl)); intro gb hg w1 hbox hb; have HX := Lib.hid (H.out.below hb); have HB1 := Lib.hid hb; have HBX := Lib.hid hbox; have HY := Lib.hid (BodyOwn.below HO.out hb); have HGB := Lib.hid (show g ≠ gb by have := HG.out; omega); have HGE := Lib.hid (show w.heap.size ≤ gb by omega); have HSZ := Lib.hid (show n ≤ w1.heap.size by have := HX.out.ge; have := blk_lt HX.out.blk; omega); have d11 : w1.cell? ⟨g, 11, none⟩ = some vb := (blk_cell HX.out.blk 11).trans rfl; clear H HO c11; have H := HX; have HO := HY; clear HX HY; have hz0 : w1.cell? ⟨gb, 0, none⟩ = some (.string (⟨#[]⟩ : ByteArray)) := (blk_cell hbox 0).trans rfl; have hz1 : w1.cell? ⟨gb, 1, none⟩ = some (.string (⟨#[]⟩ : ByteArray)) := (blk_cell hbox 1).trans rfl; have hz2 : w1.cell? ⟨gb, 2, none⟩ = some (.slice none 0 0) := (blk_cell hbox 2).trans rfl; have hz3 : w1.cell? ⟨gb, 3, none⟩ = some (.string (⟨#[]⟩ : ByteArray)) := (blk_cell hbox 3).trans rfl; have hz4 : w1.cell? ⟨gb, 4, none⟩ = some (.bool false) := (blk_cell hbox 4).trans rfl; clear hg hb hbox)
    | (go_at_call 33; refine (body_Body_Status.calls vb (bas n) b b.status _ (by repeat (first | exact HO.out | refine BodyOwn.drewN ?_ | refine BodyOwn.alloc ?_)) rfl).mono ?_; rintro e w' ⟨rfl, ⟨nd, rfl⟩⟩)
    | (go_at_call 34; refine (cut_fail n g vs vl vf vb c b.status _ ?hcat).mono ?_; (case hcat => first | exact H.out | exact H.out.below (pw_below_drewN (Below.refl _ _) _)); rintro e w9 ⟨rfl, hA, hF⟩; have k9 := hF.other gb _ (show (w1.drewN _).heap[gb]? = some _ from HBX.out) (by intro cs t z he; injection he with _ he; subst he; decide); have HA := Lib.hid hA; have HF := Lib.hid hF; have HK := Lib.hid k9; clear hA hF; clear hz0 hz1 hz2 hz3 hz4; have hz0 : w9.cell? ⟨gb, 0, none⟩ = some (.string (⟨#[]⟩ : ByteArray)) := (blk_cell k9 0).trans rfl; have hz1 : w9.cell? ⟨gb, 1, none⟩ = some (.string (⟨#[]⟩ : ByteArray)) := (blk_cell k9 1).trans rfl; have hz2 : w9.cell? ⟨gb, 2, none⟩ = some (.slice none 0 0) := (blk_cell k9 2).trans rfl; have hz3 : w9.cell? ⟨gb, 3, none⟩ = some (.string (⟨#[]⟩ : ByteArray)) := (blk_cell k9 3).trans rfl; have hz4 : w9.cell? ⟨gb, 4, none⟩ = some (.bool false) := (blk_cell k9 4).trans rfl; have fz0 := blk_frozen k9 0; have fz1 := blk_frozen k9 1; have fz2 := blk_frozen k9 2; have fz3 := blk_frozen k9 3; have fz4 := blk_frozen k9 4; clear k9))
  have b0 := blk_set HK.out 0 (.string (⟨#[]⟩ : ByteArray))
  have b1 := blk_set b0 1 (.string (⟨#[]⟩ : ByteArray))
  have b2 := blk_set b1 2 (.slice none 0 0)
  have b3 := blk_set b2 3 (.string (⟨#[]⟩ : ByteArray))
  have b4 := blk_set b3 4 (.bool false)
  have a0 := HA.out.req HK.out 0 (.string (⟨#[]⟩ : ByteArray))
  have a1 := a0.req b0 1 (.string (⟨#[]⟩ : ByteArray))
  have a2 := a1.req b1 2 (.slice none 0 0)
  have a3 := a2.req b2 3 (.string (⟨#[]⟩ : ByteArray))
  have a4 := a3.req b3 4 (.bool false)
  refine bodyPost_ret (results_ct rfl _ _ gb 31 #[.string (⟨#[]⟩ : ByteArray), .string (⟨#[]⟩ : ByteArray), .slice none 0 0, .string (⟨#[]⟩ : ByteArray), .bool false] (0, 0) _ rfl (by simpa using b4) Tryd.underlying31 rfl (by kernel_rfl)) rfl ?_
  have hgn : w.heap.size ≤ gb := HGE.out
  have hnn : n ≤ gb := by have := H.out.ge; have := HG.out; omega
  have F1 : CutFrame n w w1 := CutFrame.ofBelow HB1.out (by have := H.out.ge; have := HG.out; omega)
  have F2 := F1.trans ((CutFrame.ofBelow (pw_below_drewN (Below.refl _ _) _) (by have := HSZ.out; omega)).trans HF.out)
  exact ⟨rfl, a4, ((((F2.fresh hgn hnn 0 _).fresh hgn hnn 1 _).fresh hgn hnn 2 _).fresh hgn hnn 3 _).fresh hgn hnn 4 _⟩
end Go.Proofs.YtldaingkcnmaoaaDoor.X
namespace Go.Proofs.YtldaingkcnmaoaaDoor.X
open Go.RowKit Go.Proofs.YtldaingkcnmaoaaDoorW.PrintWords Go.Proofs.YtldaingkcnmaoaaDoorW.PrintLast Go.Proofs.YtldaingkcnmaoaaDoorW.PrintMore
attribute [local go_sem] max2_int min2_int max_two min_two max_three min_three max_four min_four
theorem drawn0_below {w w1 : World} (h : Drawn0 w w1) : Below w.heap.size w w1 := by
  obtain ⟨nd, rfl⟩ := h
  exact pw_below_drewN (Below.refl _ _) nd
theorem Kd.R_fields {n : Nat} {w w1 : World} {v : Value} {xs : List S62} (h : Kd.R k62 62 w n (fun _ => True) v xs) (hF : CutFrame n w w1) : Kd.R k62 62 w1 n (fun _ => True) v xs := by
  have hk : ∀ q, q ∈ (62 :: k62.E) → q ≠ 59 ∧ q ≠ 70 ∧ q ≠ 9 ∧ q ≠ 5 := by decide
  refine Kd.R_mono (Kd.R_step (Kd.R_bound h) (fun k ho _ => ?_)) (fun _ _ => trivial)
  obtain ⟨_, _, _, q, hq, cells, hh⟩ := ho
  have h1 := hF.other k _ hh (by intro cs t z he; injection he with _ he; subst he; exact hk _ hq)
  exact h1.trans hh.symm
set_option maxHeartbeats 1000000 in
set_option maxRecDepth 100000 in
theorem cut_end_ok_false (n g : Nat) (vs vl vb : Value) (Af : Option Addr) (cf : Nat) (c : CutS) (b : BodyS) (w : World) (h : CutAt w n g vs vl (.slice Af c.hf.length cf) vb c) (hb : BodyOwn w (bas n) vb b) (hf : Kd.R k62 62 w n (fun _ => True) (.slice Af c.hf.length cf) c.hf) (hs : b.status = 0) (hcc : c.hc = false) :
    Calls Tryd.prog 23 #[.pointer (some ⟨g, 0, none⟩)] w fun e w' => e = .returned (.tuple #[.agg #[.string c.hm, .string c.ht, (.slice Af c.hf.length cf), .string (strOfNums (nts b.data)), .bool false], .bool true]) ∧ CutAt w' n g (.slice none 0 0) vl (.slice Af c.hf.length cf) (.pointer none) { c with body := none, size := 0, lines := [] } ∧ Kd.R k62 62 w' n (fun _ => True) (.slice Af c.hf.length cf) c.hf ∧ CutFrame n w w' := by
  have c11 : w.cell? ⟨g, 11, none⟩ = some vb := (blk_cell h.blk 11).trans rfl
  have h8 : w.cell? ⟨g, 8, none⟩ = some (.bool c.hc) := (blk_cell h.blk 8).trans rfl
  clear h8
  have t1 : (b.status != 0) = false := bne_eq_false_iff_eq.2 hs
  have H := Lib.hid h
  have HO := Lib.hid hb
  have HR := Lib.hid hf
  have HC := Lib.hid hcc
  have HG := Lib.hid (blk_lt h.blk)
  clear h hb hs hf hcc
  go_enter Tryd.func23, Tryd.ntmps23
  go_wp2_with (first
    | ((with_reducible refine gate_dst (N := 2) rfl ?_); refine box_event ?hg (N := 2) ?hd (cs := #[.string (⟨#[]⟩ : ByteArray), .string (⟨#[]⟩ : ByteArray), .slice none 0 0, .string (⟨#[]⟩ : ByteArray), .bool false]) (t := 31) ?hr ?_; (case hd => rfl); (case hg => rfl); (case hr => first | (go_simp; done) | (go_simp; rfl)); intro gb hg w1 hbox hb; have HX := Lib.hid (H.out.below hb); have HB1 := Lib.hid hb; have HBX := Lib.hid hbox; have HY := Lib.hid (BodyOwn.below HO.out hb); have HR1 := Lib.hid (Kd.R_below HR.out hb); have HGB := Lib.hid (show g ≠ gb by have := HG.out; omega); have HGE := Lib.hid (show w.heap.size ≤ gb by omega); have HSZ := Lib.hid (show n ≤ w1.heap.size by have := HX.out.ge; have := blk_lt HX.out.blk; omega); have d4 : w1.cell? ⟨g, 4, none⟩ = some (.string c.hm) := (blk_cell HX.out.blk 4).trans rfl; have d5 : w1.cell? ⟨g, 5, none⟩ = some (.string c.ht) := (blk_cell HX.out.blk 5).trans rfl; have d6 : w1.cell? ⟨g, 6, none⟩ = some ((.slice Af c.hf.length cf)) := (blk_cell HX.out.blk 6).trans rfl; have d7 : w1.cell? ⟨g, 7, none⟩ = some (.string c.hb) := (blk_cell HX.out.blk 7).trans rfl; have d8 : w1.cell? ⟨g, 8, none⟩ = some (.bool false) := ((blk_cell HX.out.blk 8).trans rfl : w1.cell? ⟨g, 8, none⟩ = some (.bool c.hc)).trans (by rw [HC.out]); have d11 : w1.cell? ⟨g, 11, none⟩ = some (vb) := (blk_cell HX.out.blk 11).trans rfl; clear HO HR c11; have HO := HY; have HR := HR1; clear HY HR1 hg hb hbox)
    | (go_at_call 33; refine (body_Body_Status.calls vb (bas n) b b.status _ HO.out rfl).mono ?_; rintro e w' ⟨rfl, ⟨nd, rfl⟩⟩; have HD0 := Lib.hid (pw_below_drewN (Below.refl w1.heap.size w1) nd))
    | ((with_reducible refine gate_dst (N := 5) rfl ?_); refine box_event ?hg (N := 5) ?hd (cs := #[.string (⟨#[]⟩ : ByteArray), .string (⟨#[]⟩ : ByteArray), .slice none 0 0, .string (⟨#[]⟩ : ByteArray), .bool false]) (t := 31) ?hr ?_; (case hd => rfl); (case hg => rfl); (case hr => first | (go_simp; done) | (go_simp; rfl)); intro gr hg2 w2 hbox2 hb2; have HT := Lib.hid (HD0.out.trans (bel_less hb2 (by have := HD0.out.size; omega))); have HNE := Lib.hid (show gr ≠ gb by have := blk_lt HBX.out; have := HD0.out.size; omega); have HNG := Lib.hid (show gr ≠ g by have := blk_lt HX.out.blk; have := HD0.out.size; omega); have HGR := Lib.hid (show w.heap.size ≤ gr by have := HGE.out; have := blk_lt HBX.out; have := HD0.out.size; omega); have HB2 := Lib.hid hbox2; have H2 := Lib.hid (HX.out.below HT.out); have HO2 := Lib.hid (BodyOwn.below HO.out HT.out); have HR2 := Lib.hid (Kd.R_below HR.out HT.out); have HBX2 := Lib.hid (blk_grown HBX.out (grown_of_below HT.out none) (by simp)); clear HO HR; have e4 : w2.cell? ⟨g, 4, none⟩ = some (.string c.hm) := (blk_cell H2.out.blk 4).trans rfl; have e5 : w2.cell? ⟨g, 5, none⟩ = some (.string c.ht) := (blk_cell H2.out.blk 5).trans rfl; have e6 : w2.cell? ⟨g, 6, none⟩ = some ((.slice Af c.hf.length cf)) := (blk_cell H2.out.blk 6).trans rfl; have e7 : w2.cell? ⟨g, 7, none⟩ = some (.string c.hb) := (blk_cell H2.out.blk 7).trans rfl; have e8 : w2.cell? ⟨g, 8, none⟩ = some (.bool false) := ((blk_cell H2.out.blk 8).trans rfl : w2.cell? ⟨g, 8, none⟩ = some (.bool c.hc)).trans (by rw [HC.out]); have e11 : w2.cell? ⟨g, 11, none⟩ = some (vb) := (blk_cell H2.out.blk 11).trans rfl; have y0 : w2.cell? ⟨gr, 0, none⟩ = some (.string (⟨#[]⟩ : ByteArray)) := (blk_cell HB2.out 0).trans rfl; have y1 : w2.cell? ⟨gr, 1, none⟩ = some (.string (⟨#[]⟩ : ByteArray)) := (blk_cell HB2.out 1).trans rfl; have y2 : w2.cell? ⟨gr, 2, none⟩ = some (.slice none 0 0) := (blk_cell HB2.out 2).trans rfl; have y3 : w2.cell? ⟨gr, 3, none⟩ = some (.string (⟨#[]⟩ : ByteArray)) := (blk_cell HB2.out 3).trans rfl; have y4 : w2.cell? ⟨gr, 4, none⟩ = some (.bool false) := (blk_cell HB2.out 4).trans rfl; have fy0 := blk_frozen HB2.out 0; have fy1 := blk_frozen HB2.out 1; have fy2 := blk_frozen HB2.out 2; have fy3 := blk_frozen HB2.out 3; have fy4 := blk_frozen HB2.out 4; clear d4 d5 d6 d7 d8 d11 hg2 hbox2 hb2)
    | (go_at_call 35; have q0 := HB2.out; have q1 := blk_set q0 0 (.string c.hm); have q2 := blk_set q1 1 (.string c.ht); have q3 := blk_set q2 2 ((.slice Af c.hf.length cf)); have q4 := blk_set q3 3 (.string c.hb); have q5 := blk_set q4 4 (.bool false); have a0 := H2.out; have a1 := a0.req q0 0 (.string c.hm); have a2 := a1.req q1 1 (.string c.ht); have a3 := a2.req q2 2 ((.slice Af c.hf.length cf)); have a4 := a3.req q3 3 (.string c.hb); have a5 := a4.req q4 4 (.bool false); have o0 := HO2.out; have o1 := bodyOwn_req (i := 0) (u := .string c.hm) o0 q0; have o2 := bodyOwn_req (i := 1) (u := .string c.ht) o1 q1; have o3 := bodyOwn_req (i := 2) (u := (.slice Af c.hf.length cf)) o2 q2; have o4 := bodyOwn_req (i := 3) (u := .string c.hb) o3 q3; have o5 := bodyOwn_req (i := 4) (u := .bool false) o4 q4; have r0 := HR2.out; have r1 := Kd.R_set r0 q0 (by intro q hq; revert q; decide) 0 (.string c.hm); have r2 := Kd.R_set r1 q1 (by intro q hq; revert q; decide) 1 (.string c.ht); have r3 := Kd.R_set r2 q2 (by intro q hq; revert q; decide) 2 ((.slice Af c.hf.length cf)); have r4 := Kd.R_set r3 q3 (by intro q hq; revert q; decide) 3 (.string c.hb); have r5 := Kd.R_set r4 q4 (by intro q hq; revert q; decide) 4 (.bool false); have x0 := HBX2.out; have x1 := blk_far (p := ⟨gr, 0, none⟩) x0 (Ne.symm HNE.out) (.string c.hm); have x2 := blk_far (p := ⟨gr, 1, none⟩) x1 (Ne.symm HNE.out) (.string c.ht); have x3 := blk_far (p := ⟨gr, 2, none⟩) x2 (Ne.symm HNE.out) ((.slice Af c.hf.length cf)); have x4 := blk_far (p := ⟨gr, 3, none⟩) x3 (Ne.symm HNE.out) (.string c.hb); have x5 := blk_far (p := ⟨gr, 4, none⟩) x4 (Ne.symm HNE.out) (.bool false); have hgn : w.heap.size ≤ gr := HGR.out; have hnn : n ≤ gr := (by have := H.out.ge; have := HG.out; omega); have f0 : CutFrame n w w2 := (CutFrame.ofBelow HB1.out (by have := H.out.ge; have := HG.out; omega)).trans (CutFrame.ofBelow HT.out HSZ.out); have f1 := f0.fresh hgn hnn 0 (.string c.hm); have f2 := f1.fresh hgn hnn 1 (.string c.ht); have f3 := f2.fresh hgn hnn 2 ((.slice Af c.hf.length cf)); have f4 := f3.fresh hgn hnn 3 (.string c.hb); have f5 := f4.fresh hgn hnn 4 (.bool false); refine (body_Body_Data.calls vb (bas n) b _ _ o5 rfl).mono ?_; rintro e w4 ⟨rfl, hw4⟩; have hb4 := drawn0_below hw4; have A4 := Lib.hid (a5.below hb4); have K4 := Lib.hid (show w4.heap[gr]? = some (.cells #[.string c.hm, .string c.ht, (.slice Af c.hf.length cf), .string c.hb, .bool false] 31 (0, 0)) from blk_grown (by simpa using q5) (grown_of_below hb4 none) (by simp)); have X4 := Lib.hid (blk_grown x5 (grown_of_below hb4 none) (by simp)); have R4 := Lib.hid (Kd.R_below r5 hb4); have F4 := Lib.hid (f5.trans (CutFrame.ofBelow hb4 (by have := blk_lt a5.blk; have := a5.ge; omega))); clear q0 q1 q2 q3 q4 q5 a0 a1 a2 a3 a4 a5 o0 o1 o2 o3 o4 o5 r0 r1 r2 r3 r4 r5 x0 x1 x2 x3 x4 x5 f0 f1 f2 f3 f4 f5 hw4 hb4 hgn hnn e4 e5 e6 e7 e8 e11 y0 fy0 y1 fy1 y2 fy2 y3 fy3 y4 fy4; have y0 : w4.cell? ⟨gr, 0, none⟩ = some (.string c.hm) := (blk_cell K4.out 0).trans rfl; have y1 : w4.cell? ⟨gr, 1, none⟩ = some (.string c.ht) := (blk_cell K4.out 1).trans rfl; have y2 : w4.cell? ⟨gr, 2, none⟩ = some ((.slice Af c.hf.length cf)) := (blk_cell K4.out 2).trans rfl; have y3 : w4.cell? ⟨gr, 3, none⟩ = some (.string c.hb) := (blk_cell K4.out 3).trans rfl; have y4 : w4.cell? ⟨gr, 4, none⟩ = some (.bool false) := (blk_cell K4.out 4).trans rfl; have fy3 := blk_frozen K4.out 3; have d1 : w4.cell? ⟨g, 1, none⟩ = some (vs) := (blk_cell A4.out.blk 1).trans rfl; have d3 : w4.cell? ⟨g, 3, none⟩ = some (.int .i64 c.size) := (blk_cell A4.out.blk 3).trans rfl; have d11 : w4.cell? ⟨g, 11, none⟩ = some (vb) := (blk_cell A4.out.blk 11).trans rfl; have fd1 := blk_frozen A4.out.blk 1; have fd3 := blk_frozen A4.out.blk 3; have fd11 := blk_frozen A4.out.blk 11; have ne1 : gr ≠ g := HNG.out; have ne2 : g ≠ gr := Ne.symm ne1; have z0 : w4.cell? ⟨gb, 0, none⟩ = some (.string (⟨#[]⟩ : ByteArray)) := (blk_cell X4.out 0).trans rfl; have z1 : w4.cell? ⟨gb, 1, none⟩ = some (.string (⟨#[]⟩ : ByteArray)) := (blk_cell X4.out 1).trans rfl; have z2 : w4.cell? ⟨gb, 2, none⟩ = some (.slice none 0 0) := (blk_cell X4.out 2).trans rfl; have z3 : w4.cell? ⟨gb, 3, none⟩ = some (.string (⟨#[]⟩ : ByteArray)) := (blk_cell X4.out 3).trans rfl; have z4 : w4.cell? ⟨gb, 4, none⟩ = some (.bool false) := (blk_cell X4.out 4).trans rfl; have fz0 := blk_frozen X4.out 0; have fz1 := blk_frozen X4.out 1; have fz2 := blk_frozen X4.out 2; have fz3 := blk_frozen X4.out 3; have fz4 := blk_frozen X4.out 4; have ne3 : gr ≠ gb := HNE.out; have ne4 : gb ≠ gr := Ne.symm ne3; have ne5 : g ≠ gb := HGB.out; have ne6 : gb ≠ g := Ne.symm ne5))
  have p1 := A4.out.req K4.out 3 (.string (strOfNums (nts b.data)))
  have p2 := p1.noBody
  have p3 := p2.setSize 0
  have p4 := p3.nilLines
  have s1 := Kd.R_set R4.out K4.out (by intro q hq; revert q; decide) 3 (.string (strOfNums (nts b.data)))
  have s2 := Kd.R_set s1 p1.blk (by intro q hq; revert q; decide) 11 (.pointer none)
  have s3 := Kd.R_set s2 p2.blk (by intro q hq; revert q; decide) 3 (.int .i64 0)
  have s4 := Kd.R_set s3 p3.blk (by intro q hq; revert q; decide) 1 (.slice none 0 0)
  have u0 := blk_far (p := ⟨gr, 3, none⟩) X4.out ne4 (.string (strOfNums (nts b.data)))
  have u1 := blk_far (p := ⟨g, 11, none⟩) u0 ne6 (.pointer none)
  have u2 := blk_far (p := ⟨g, 3, none⟩) u1 ne6 (.int .i64 0)
  have b0 := blk_far (p := ⟨g, 1, none⟩) u2 ne6 (.slice none 0 0)
  have F9 := (((F4.out.fresh HGR.out (by have := H.out.ge; have := HG.out; have := HGR.out; omega) 3 (.string (strOfNums (nts b.data)))).set (i := 11) (u := .pointer none) p1.blk p1.ge).set (i := 3) (u := .int .i64 0) p2.blk p2.ge).set (i := 1) (u := .slice none 0 0) p3.blk p3.ge
  have b1 := blk_set b0 0 (.string c.hm)
  have b2 := blk_set b1 1 (.string c.ht)
  have b3 := blk_set b2 2 ((.slice Af c.hf.length cf))
  have b4 := blk_set b3 3 (.string (strOfNums (nts b.data)))
  have b5 := blk_set b4 4 (.bool false)
  have a0 := p4
  have a1 := a0.req b0 0 (.string c.hm)
  have a2 := a1.req b1 1 (.string c.ht)
  have a3 := a2.req b2 2 ((.slice Af c.hf.length cf))
  have a4 := a3.req b3 3 (.string (strOfNums (nts b.data)))
  have a5 := a4.req b4 4 (.bool false)
  have r0 := s4
  have r1 := Kd.R_set r0 b0 (by intro q hq; revert q; decide) 0 (.string c.hm)
  have r2 := Kd.R_set r1 b1 (by intro q hq; revert q; decide) 1 (.string c.ht)
  have r3 := Kd.R_set r2 b2 (by intro q hq; revert q; decide) 2 ((.slice Af c.hf.length cf))
  have r4 := Kd.R_set r3 b3 (by intro q hq; revert q; decide) 3 (.string (strOfNums (nts b.data)))
  have r5 := Kd.R_set r4 b4 (by intro q hq; revert q; decide) 4 (.bool false)
  have hgn : w.heap.size ≤ gb := HGE.out
  have hnn : n ≤ gb := by have := H.out.ge; have := HG.out; omega
  have f0 := F9
  have f1 := f0.fresh hgn hnn 0 (.string c.hm)
  have f2 := f1.fresh hgn hnn 1 (.string c.ht)
  have f3 := f2.fresh hgn hnn 2 ((.slice Af c.hf.length cf))
  have f4 := f3.fresh hgn hnn 3 (.string (strOfNums (nts b.data)))
  have f5 := f4.fresh hgn hnn 4 (.bool false)
  refine bodyPost_ret (results_ct rfl _ _ gb 31 #[.string c.hm, .string c.ht, (.slice Af c.hf.length cf), .string (strOfNums (nts b.data)), .bool false] (0, 0) _ rfl (by simpa using b5) Tryd.underlying31 rfl (by kernel_rfl)) rfl ?_
  exact ⟨rfl, a5, r5, f5⟩
set_option maxHeartbeats 1000000 in
set_option maxRecDepth 100000 in
theorem cut_end_ok_true (n g : Nat) (vs vl vb : Value) (Af : Option Addr) (cf : Nat) (c : CutS) (b : BodyS) (w : World) (h : CutAt w n g vs vl (.slice Af c.hf.length cf) vb c) (hb : BodyOwn w (bas n) vb b) (hf : Kd.R k62 62 w n (fun _ => True) (.slice Af c.hf.length cf) c.hf) (hs : b.status = 0) (hcc : c.hc = true) :
    Calls Tryd.prog 23 #[.pointer (some ⟨g, 0, none⟩)] w fun e w' => e = .returned (.tuple #[.agg #[.string c.hm, .string c.ht, (.slice Af c.hf.length cf), .string (strOfNums (nts b.data)), .bool true], .bool true]) ∧ CutAt w' n g (.slice none 0 0) vl (.slice Af c.hf.length cf) (.pointer none) (failC { c with body := none, size := 0, lines := [] } 0) ∧ Kd.R k62 62 w' n (fun _ => True) (.slice Af c.hf.length cf) c.hf ∧ CutFrame n w w' := by
  have c11 : w.cell? ⟨g, 11, none⟩ = some vb := (blk_cell h.blk 11).trans rfl
  have h8 : w.cell? ⟨g, 8, none⟩ = some (.bool c.hc) := (blk_cell h.blk 8).trans rfl
  clear h8
  have t1 : (b.status != 0) = false := bne_eq_false_iff_eq.2 hs
  have H := Lib.hid h
  have HO := Lib.hid hb
  have HR := Lib.hid hf
  have HC := Lib.hid hcc
  have HG := Lib.hid (blk_lt h.blk)
  clear h hb hs hf hcc
  go_enter Tryd.func23, Tryd.ntmps23
  go_wp2_with (first
    | ((with_reducible refine gate_dst (N := 2) rfl ?_); refine box_event ?hg (N := 2) ?hd (cs := #[.string (⟨#[]⟩ : ByteArray), .string (⟨#[]⟩ : ByteArray), .slice none 0 0, .string (⟨#[]⟩ : ByteArray), .bool false]) (t := 31) ?hr ?_; (case hd => rfl); (case hg => rfl); (case hr => first | (go_simp; done) | (go_simp; rfl)); intro gb hg w1 hbox hb; have HX := Lib.hid (H.out.below hb); have HB1 := Lib.hid hb; have HBX := Lib.hid hbox; have HY := Lib.hid (BodyOwn.below HO.out hb); have HR1 := Lib.hid (Kd.R_below HR.out hb); have HGB := Lib.hid (show g ≠ gb by have := HG.out; omega); have HGE := Lib.hid (show w.heap.size ≤ gb by omega); have HSZ := Lib.hid (show n ≤ w1.heap.size by have := HX.out.ge; have := blk_lt HX.out.blk; omega); have d4 : w1.cell? ⟨g, 4, none⟩ = some (.string c.hm) := (blk_cell HX.out.blk 4).trans rfl; have d5 : w1.cell? ⟨g, 5, none⟩ = some (.string c.ht) := (blk_cell HX.out.blk 5).trans rfl; have d6 : w1.cell? ⟨g, 6, none⟩ = some ((.slice Af c.hf.length cf)) := (blk_cell HX.out.blk 6).trans rfl; have d7 : w1.cell? ⟨g, 7, none⟩ = some (.string c.hb) := (blk_cell HX.out.blk 7).trans rfl; have d8 : w1.cell? ⟨g, 8, none⟩ = some (.bool true) := ((blk_cell HX.out.blk 8).trans rfl : w1.cell? ⟨g, 8, none⟩ = some (.bool c.hc)).trans (by rw [HC.out]); have d11 : w1.cell? ⟨g, 11, none⟩ = some (vb) := (blk_cell HX.out.blk 11).trans rfl; clear HO HR c11; have HO := HY; have HR := HR1; clear HY HR1 hg hb hbox)
    | (go_at_call 33; refine (body_Body_Status.calls vb (bas n) b b.status _ HO.out rfl).mono ?_; rintro e w' ⟨rfl, ⟨nd, rfl⟩⟩; have HD0 := Lib.hid (pw_below_drewN (Below.refl w1.heap.size w1) nd))
    | ((with_reducible refine gate_dst (N := 5) rfl ?_); refine box_event ?hg (N := 5) ?hd (cs := #[.string (⟨#[]⟩ : ByteArray), .string (⟨#[]⟩ : ByteArray), .slice none 0 0, .string (⟨#[]⟩ : ByteArray), .bool false]) (t := 31) ?hr ?_; (case hd => rfl); (case hg => rfl); (case hr => first | (go_simp; done) | (go_simp; rfl)); intro gr hg2 w2 hbox2 hb2; have HT := Lib.hid (HD0.out.trans (bel_less hb2 (by have := HD0.out.size; omega))); have HNE := Lib.hid (show gr ≠ gb by have := blk_lt HBX.out; have := HD0.out.size; omega); have HNG := Lib.hid (show gr ≠ g by have := blk_lt HX.out.blk; have := HD0.out.size; omega); have HGR := Lib.hid (show w.heap.size ≤ gr by have := HGE.out; have := blk_lt HBX.out; have := HD0.out.size; omega); have HB2 := Lib.hid hbox2; have H2 := Lib.hid (HX.out.below HT.out); have HO2 := Lib.hid (BodyOwn.below HO.out HT.out); have HR2 := Lib.hid (Kd.R_below HR.out HT.out); have HBX2 := Lib.hid (blk_grown HBX.out (grown_of_below HT.out none) (by simp)); clear HO HR; have e4 : w2.cell? ⟨g, 4, none⟩ = some (.string c.hm) := (blk_cell H2.out.blk 4).trans rfl; have e5 : w2.cell? ⟨g, 5, none⟩ = some (.string c.ht) := (blk_cell H2.out.blk 5).trans rfl; have e6 : w2.cell? ⟨g, 6, none⟩ = some ((.slice Af c.hf.length cf)) := (blk_cell H2.out.blk 6).trans rfl; have e7 : w2.cell? ⟨g, 7, none⟩ = some (.string c.hb) := (blk_cell H2.out.blk 7).trans rfl; have e8 : w2.cell? ⟨g, 8, none⟩ = some (.bool true) := ((blk_cell H2.out.blk 8).trans rfl : w2.cell? ⟨g, 8, none⟩ = some (.bool c.hc)).trans (by rw [HC.out]); have e11 : w2.cell? ⟨g, 11, none⟩ = some (vb) := (blk_cell H2.out.blk 11).trans rfl; have y0 : w2.cell? ⟨gr, 0, none⟩ = some (.string (⟨#[]⟩ : ByteArray)) := (blk_cell HB2.out 0).trans rfl; have y1 : w2.cell? ⟨gr, 1, none⟩ = some (.string (⟨#[]⟩ : ByteArray)) := (blk_cell HB2.out 1).trans rfl; have y2 : w2.cell? ⟨gr, 2, none⟩ = some (.slice none 0 0) := (blk_cell HB2.out 2).trans rfl; have y3 : w2.cell? ⟨gr, 3, none⟩ = some (.string (⟨#[]⟩ : ByteArray)) := (blk_cell HB2.out 3).trans rfl; have y4 : w2.cell? ⟨gr, 4, none⟩ = some (.bool false) := (blk_cell HB2.out 4).trans rfl; have fy0 := blk_frozen HB2.out 0; have fy1 := blk_frozen HB2.out 1; have fy2 := blk_frozen HB2.out 2; have fy3 := blk_frozen HB2.out 3; have fy4 := blk_frozen HB2.out 4; clear d4 d5 d6 d7 d8 d11 hg2 hbox2 hb2)
    | (go_at_call 35; have q0 := HB2.out; have q1 := blk_set q0 0 (.string c.hm); have q2 := blk_set q1 1 (.string c.ht); have q3 := blk_set q2 2 ((.slice Af c.hf.length cf)); have q4 := blk_set q3 3 (.string c.hb); have q5 := blk_set q4 4 (.bool true); have a0 := H2.out; have a1 := a0.req q0 0 (.string c.hm); have a2 := a1.req q1 1 (.string c.ht); have a3 := a2.req q2 2 ((.slice Af c.hf.length cf)); have a4 := a3.req q3 3 (.string c.hb); have a5 := a4.req q4 4 (.bool true); have o0 := HO2.out; have o1 := bodyOwn_req (i := 0) (u := .string c.hm) o0 q0; have o2 := bodyOwn_req (i := 1) (u := .string c.ht) o1 q1; have o3 := bodyOwn_req (i := 2) (u := (.slice Af c.hf.length cf)) o2 q2; have o4 := bodyOwn_req (i := 3) (u := .string c.hb) o3 q3; have o5 := bodyOwn_req (i := 4) (u := .bool true) o4 q4; have r0 := HR2.out; have r1 := Kd.R_set r0 q0 (by intro q hq; revert q; decide) 0 (.string c.hm); have r2 := Kd.R_set r1 q1 (by intro q hq; revert q; decide) 1 (.string c.ht); have r3 := Kd.R_set r2 q2 (by intro q hq; revert q; decide) 2 ((.slice Af c.hf.length cf)); have r4 := Kd.R_set r3 q3 (by intro q hq; revert q; decide) 3 (.string c.hb); have r5 := Kd.R_set r4 q4 (by intro q hq; revert q; decide) 4 (.bool true); have x0 := HBX2.out; have x1 := blk_far (p := ⟨gr, 0, none⟩) x0 (Ne.symm HNE.out) (.string c.hm); have x2 := blk_far (p := ⟨gr, 1, none⟩) x1 (Ne.symm HNE.out) (.string c.ht); have x3 := blk_far (p := ⟨gr, 2, none⟩) x2 (Ne.symm HNE.out) ((.slice Af c.hf.length cf)); have x4 := blk_far (p := ⟨gr, 3, none⟩) x3 (Ne.symm HNE.out) (.string c.hb); have x5 := blk_far (p := ⟨gr, 4, none⟩) x4 (Ne.symm HNE.out) (.bool true); have hgn : w.heap.size ≤ gr := HGR.out; have hnn : n ≤ gr := (by have := H.out.ge; have := HG.out; omega); have f0 : CutFrame n w w2 := (CutFrame.ofBelow HB1.out (by have := H.out.ge; have := HG.out; omega)).trans (CutFrame.ofBelow HT.out HSZ.out); have f1 := f0.fresh hgn hnn 0 (.string c.hm); have f2 := f1.fresh hgn hnn 1 (.string c.ht); have f3 := f2.fresh hgn hnn 2 ((.slice Af c.hf.length cf)); have f4 := f3.fresh hgn hnn 3 (.string c.hb); have f5 := f4.fresh hgn hnn 4 (.bool true); refine (body_Body_Data.calls vb (bas n) b _ _ o5 rfl).mono ?_; rintro e w4 ⟨rfl, hw4⟩; have hb4 := drawn0_below hw4; have A4 := Lib.hid (a5.below hb4); have K4 := Lib.hid (show w4.heap[gr]? = some (.cells #[.string c.hm, .string c.ht, (.slice Af c.hf.length cf), .string c.hb, .bool true] 31 (0, 0)) from blk_grown (by simpa using q5) (grown_of_below hb4 none) (by simp)); have X4 := Lib.hid (blk_grown x5 (grown_of_below hb4 none) (by simp)); have R4 := Lib.hid (Kd.R_below r5 hb4); have F4 := Lib.hid (f5.trans (CutFrame.ofBelow hb4 (by have := blk_lt a5.blk; have := a5.ge; omega))); clear q0 q1 q2 q3 q4 q5 a0 a1 a2 a3 a4 a5 o0 o1 o2 o3 o4 o5 r0 r1 r2 r3 r4 r5 x0 x1 x2 x3 x4 x5 f0 f1 f2 f3 f4 f5 hw4 hb4 hgn hnn e4 e5 e6 e7 e8 e11 y0 fy0 y1 fy1 y2 fy2 y3 fy3 y4 fy4; have y0 : w4.cell? ⟨gr, 0, none⟩ = some (.string c.hm) := (blk_cell K4.out 0).trans rfl; have y1 : w4.cell? ⟨gr, 1, none⟩ = some (.string c.ht) := (blk_cell K4.out 1).trans rfl; have y2 : w4.cell? ⟨gr, 2, none⟩ = some ((.slice Af c.hf.length cf)) := (blk_cell K4.out 2).trans rfl; have y3 : w4.cell? ⟨gr, 3, none⟩ = some (.string c.hb) := (blk_cell K4.out 3).trans rfl; have y4 : w4.cell? ⟨gr, 4, none⟩ = some (.bool true) := (blk_cell K4.out 4).trans rfl; have fy3 := blk_frozen K4.out 3; have d1 : w4.cell? ⟨g, 1, none⟩ = some (vs) := (blk_cell A4.out.blk 1).trans rfl; have d3 : w4.cell? ⟨g, 3, none⟩ = some (.int .i64 c.size) := (blk_cell A4.out.blk 3).trans rfl; have d11 : w4.cell? ⟨g, 11, none⟩ = some (vb) := (blk_cell A4.out.blk 11).trans rfl; have fd1 := blk_frozen A4.out.blk 1; have fd3 := blk_frozen A4.out.blk 3; have fd11 := blk_frozen A4.out.blk 11; have ne1 : gr ≠ g := HNG.out; have ne2 : g ≠ gr := Ne.symm ne1; have z0 : w4.cell? ⟨gb, 0, none⟩ = some (.string (⟨#[]⟩ : ByteArray)) := (blk_cell X4.out 0).trans rfl; have z1 : w4.cell? ⟨gb, 1, none⟩ = some (.string (⟨#[]⟩ : ByteArray)) := (blk_cell X4.out 1).trans rfl; have z2 : w4.cell? ⟨gb, 2, none⟩ = some (.slice none 0 0) := (blk_cell X4.out 2).trans rfl; have z3 : w4.cell? ⟨gb, 3, none⟩ = some (.string (⟨#[]⟩ : ByteArray)) := (blk_cell X4.out 3).trans rfl; have z4 : w4.cell? ⟨gb, 4, none⟩ = some (.bool false) := (blk_cell X4.out 4).trans rfl; have fz0 := blk_frozen X4.out 0; have fz1 := blk_frozen X4.out 1; have fz2 := blk_frozen X4.out 2; have fz3 := blk_frozen X4.out 3; have fz4 := blk_frozen X4.out 4; have ne3 : gr ≠ gb := HNE.out; have ne4 : gb ≠ gr := Ne.symm ne3; have ne5 : g ≠ gb := HGB.out; have ne6 : gb ≠ g := Ne.symm ne5)
    | (go_at_call 34; refine (cut_fail n g (.slice none 0 0) vl (.slice Af c.hf.length cf) (.pointer none) { c with body := none, size := 0, lines := [] } 0 _ ((((A4.out.req K4.out 3 (.string (strOfNums (nts b.data)))).noBody).setSize 0).nilLines)).mono ?_; rintro e w9 ⟨rfl, hA, hF⟩; have A9 := Lib.hid hA; have p1 := A4.out.req K4.out 3 (.string (strOfNums (nts b.data))); have p2 := p1.noBody; have p3 := p2.setSize 0; have m0 := blk_set K4.out 3 (.string (strOfNums (nts b.data))); have m1 := blk_far (p := ⟨g, 11, none⟩) m0 ne1 (.pointer none); have m2 := blk_far (p := ⟨g, 3, none⟩) m1 ne1 (.int .i64 0); have m3 := blk_far (p := ⟨g, 1, none⟩) m2 ne1 (.slice none 0 0); have k9 := hF.other gr _ m3 (by intro cs t z he; injection he with _ he; subst he; decide); have u0 := blk_far (p := ⟨gr, 3, none⟩) X4.out ne4 (.string (strOfNums (nts b.data))); have u1 := blk_far (p := ⟨g, 11, none⟩) u0 ne6 (.pointer none); have u2 := blk_far (p := ⟨g, 3, none⟩) u1 ne6 (.int .i64 0); have u3 := blk_far (p := ⟨g, 1, none⟩) u2 ne6 (.slice none 0 0); have x9 := hF.other gb _ u3 (by intro cs t z he; injection he with _ he; subst he; decide); have s1 := Kd.R_set R4.out K4.out (by intro q hq; revert q; decide) 3 (.string (strOfNums (nts b.data))); have s2 := Kd.R_set s1 p1.blk (by intro q hq; revert q; decide) 11 (.pointer none); have s3 := Kd.R_set s2 p2.blk (by intro q hq; revert q; decide) 3 (.int .i64 0); have s4 := Kd.R_set s3 p3.blk (by intro q hq; revert q; decide) 1 (.slice none 0 0); have R9 := Lib.hid (Kd.R_fields s4 hF); have F9 := Lib.hid (((((F4.out.fresh HGR.out (by have := H.out.ge; have := HG.out; have := HGR.out; omega) 3 (.string (strOfNums (nts b.data)))).set (i := 11) (u := .pointer none) p1.blk p1.ge).set (i := 3) (u := .int .i64 0) p2.blk p2.ge).set (i := 1) (u := .slice none 0 0) p3.blk p3.ge).trans hF); have K9 := Lib.hid (show w9.heap[gr]? = some (.cells #[.string c.hm, .string c.ht, (.slice Af c.hf.length cf), .string (strOfNums (nts b.data)), .bool true] 31 (0, 0)) from by simpa using k9); have X9 := Lib.hid x9; clear p1 p2 p3 m0 m1 m2 m3 k9 u0 u1 u2 u3 x9 s1 s2 s3 s4 hA hF ne1 ne2 ne3 ne4 ne5 ne6 d1 d3 d11 fd1 fd3 fd11 fy3 y0 z0 fz0 y1 z1 fz1 y2 z2 fz2 y3 z3 fz3 y4 z4 fz4; have y0 : w9.cell? ⟨gr, 0, none⟩ = some (.string c.hm) := (blk_cell K9.out 0).trans rfl; have y1 : w9.cell? ⟨gr, 1, none⟩ = some (.string c.ht) := (blk_cell K9.out 1).trans rfl; have y2 : w9.cell? ⟨gr, 2, none⟩ = some ((.slice Af c.hf.length cf)) := (blk_cell K9.out 2).trans rfl; have y3 : w9.cell? ⟨gr, 3, none⟩ = some (.string (strOfNums (nts b.data))) := (blk_cell K9.out 3).trans rfl; have y4 : w9.cell? ⟨gr, 4, none⟩ = some (.bool true) := (blk_cell K9.out 4).trans rfl; have z0 : w9.cell? ⟨gb, 0, none⟩ = some (.string (⟨#[]⟩ : ByteArray)) := (blk_cell X9.out 0).trans rfl; have z1 : w9.cell? ⟨gb, 1, none⟩ = some (.string (⟨#[]⟩ : ByteArray)) := (blk_cell X9.out 1).trans rfl; have z2 : w9.cell? ⟨gb, 2, none⟩ = some (.slice none 0 0) := (blk_cell X9.out 2).trans rfl; have z3 : w9.cell? ⟨gb, 3, none⟩ = some (.string (⟨#[]⟩ : ByteArray)) := (blk_cell X9.out 3).trans rfl; have z4 : w9.cell? ⟨gb, 4, none⟩ = some (.bool false) := (blk_cell X9.out 4).trans rfl; have fz0 := blk_frozen X9.out 0; have fz1 := blk_frozen X9.out 1; have fz2 := blk_frozen X9.out 2; have fz3 := blk_frozen X9.out 3; have fz4 := blk_frozen X9.out 4))
  have b0 := X9.out
  have b1 := blk_set b0 0 (.string c.hm)
  have b2 := blk_set b1 1 (.string c.ht)
  have b3 := blk_set b2 2 ((.slice Af c.hf.length cf))
  have b4 := blk_set b3 3 (.string (strOfNums (nts b.data)))
  have b5 := blk_set b4 4 (.bool true)
  have a0 := A9.out
  have a1 := a0.req b0 0 (.string c.hm)
  have a2 := a1.req b1 1 (.string c.ht)
  have a3 := a2.req b2 2 ((.slice Af c.hf.length cf))
  have a4 := a3.req b3 3 (.string (strOfNums (nts b.data)))
  have a5 := a4.req b4 4 (.bool true)
  have r0 := R9.out
  have r1 := Kd.R_set r0 b0 (by intro q hq; revert q; decide) 0 (.string c.hm)
  have r2 := Kd.R_set r1 b1 (by intro q hq; revert q; decide) 1 (.string c.ht)
  have r3 := Kd.R_set r2 b2 (by intro q hq; revert q; decide) 2 ((.slice Af c.hf.length cf))
  have r4 := Kd.R_set r3 b3 (by intro q hq; revert q; decide) 3 (.string (strOfNums (nts b.data)))
  have r5 := Kd.R_set r4 b4 (by intro q hq; revert q; decide) 4 (.bool true)
  have hgn : w.heap.size ≤ gb := HGE.out
  have hnn : n ≤ gb := by have := H.out.ge; have := HG.out; omega
  have f0 := F9.out
  have f1 := f0.fresh hgn hnn 0 (.string c.hm)
  have f2 := f1.fresh hgn hnn 1 (.string c.ht)
  have f3 := f2.fresh hgn hnn 2 ((.slice Af c.hf.length cf))
  have f4 := f3.fresh hgn hnn 3 (.string (strOfNums (nts b.data)))
  have f5 := f4.fresh hgn hnn 4 (.bool true)
  refine bodyPost_ret (results_ct rfl _ _ gb 31 #[.string c.hm, .string c.ht, (.slice Af c.hf.length cf), .string (strOfNums (nts b.data)), .bool true] (0, 0) _ rfl (by simpa using b5) Tryd.underlying31 rfl (by kernel_rfl)) rfl ?_
  exact ⟨rfl, a5, r5, f5⟩
end Go.Proofs.YtldaingkcnmaoaaDoor.X
