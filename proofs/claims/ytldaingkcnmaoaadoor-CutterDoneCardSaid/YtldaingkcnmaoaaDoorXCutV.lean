-- Made smaller by wip/squeeze.py out of this claim's texts. Not trusted: Lean checks it.
import Derived.Test.YtldaingkcnmaoaaDoorXCutW
import Derived.Test.YtldaingkcnmaoaaDoorX16
import Derived.Test.YtldaingkcnmaoaaDoorX6
set_option linter.unusedVariables false
set_option linter.unusedSimpArgs false
namespace Go.Proofs.YtldaingkcnmaoaaDoor.X
open Go.RowKit Go.Proofs.YtldaingkcnmaoaaDoorW.PrintWords Go.Proofs.YtldaingkcnmaoaaDoorW.PrintLast Go.Proofs.YtldaingkcnmaoaaDoorW.PrintMore
attribute [local go_sem] max2_int min2_int max_two min_two max_three min_three max_four min_four
theorem own_grown {w w1 : World} {base t t' size k : Nat} {v : Value} {xs : List Value} {row : Option Nat} (h : w.ownsRow base t size v k xs) (hg : w.grownBy w1 row) (hty : ∀ j, row = some j → ∃ cells, w.heap[j]? = some (.cells cells t' (0, 0))) (ht : t ≠ t') : w1.ownsRow base t size v k xs := by
  refine own_move h (fun j hj => ?_)
  obtain ⟨cells, hc⟩ := own_typed h j hj
  refine hg.block j (blk_lt hc) (fun e => ?_)
  obtain ⟨cells', hc'⟩ := hty j e.symm
  rw [hc] at hc'
  injection hc' with hc'
  injection hc' with _ hc'
  exact ht hc'
section
variable {w w0 w1 : World} {n g : Nat} {vs vl vf vb v1 : Value} {b : BodyS} {c : CutS}
theorem CutAt.typedLine (h : CutAt w n g vs vl vf vb c) : ∀ j, vl.ownBlock = some j → ∃ cells, w.heap[j]? = some (.cells cells 5 (0, 0)) := fun j hj => own_typed h.line j hj
theorem CutAt.typedLines (h : CutAt w n g vs vl vf vb c) : ∀ j, vs.ownBlock = some j → ∃ cells, w.heap[j]? = some (.cells cells 9 (0, 0)) := Kd.R_typed h.lines
theorem CutAt.addLine {l : List UInt8} (h : CutAt w n g vs vl vf (.pointer none) c) (hbn : c.body = none) (ho : OwnBytes w1 n v1 l) (hg : w.grownBy w1 vl.ownBlock) : CutAt (w1.setCell ⟨g, 2, none⟩ v1) n g vs v1 vf (.pointer none) { c with line := l } := by
  have hb := blk_grown h.blk hg (own_ne h.line h.blk (by decide))
  have hl := Kd.R_over' h.lines h.typedLine (by intro q hq; revert q; decide) hg
  exact ⟨h.ge, by simpa using blk_set hb 2 v1, Kd.R_set hl hb (by intro q hq; revert q; decide) 2 v1, ho.set (own_ne ho hb (by decide)) v1, .inl ⟨hbn, rfl⟩⟩
theorem CutAt.nilLine (h : CutAt w n g vs vl vf (.pointer none) c) (hbn : c.body = none) : CutAt (w.setCell ⟨g, 2, none⟩ (.slice none 0 0)) n g vs (.slice none 0 0) vf (.pointer none) { c with line := [] } :=
  ⟨h.ge, by simpa using blk_set h.blk 2 (.slice none 0 0), Kd.R_set h.lines h.blk (by intro q hq; revert q; decide) 2 _, own_nil _ _ _ _, .inl ⟨hbn, rfl⟩⟩
theorem CutAt.addLines {ls : List ByteArray} (h : CutAt w n g vs vl vf (.pointer none) c) (hbn : c.body = none) (ho : Kd.R Kd.string 9 w1 n (fun _ => True) v1 ls) (hg : w.grownBy w1 vs.ownBlock) : CutAt (w1.setCell ⟨g, 1, none⟩ v1) n g v1 vl vf (.pointer none) { c with lines := ls } := by
  have hb := blk_grown h.blk hg (Kd.R_ne h.lines h.blk (by decide))
  have hl : OwnBytes w1 n vl c.line := own_grown h.line hg h.typedLines (by decide)
  exact ⟨h.ge, by simpa using blk_set hb 1 v1, Kd.R_set ho hb (by intro q hq; revert q; decide) 1 v1, hl.set (own_ne hl hb (by decide)) v1, .inl ⟨hbn, rfl⟩⟩
abbrev HdT := ByteArray × ByteArray × (List S62) × ByteArray × Bool × Int × Int
def hdC (c : CutS) (p : HdT) : CutS := { c with hm := p.1, ht := p.2.1, hf := p.2.2.1, hb := p.2.2.2.1, hc := p.2.2.2.2.1, hl := p.2.2.2.2.2.1, hs := p.2.2.2.2.2.2 }
theorem CutAt.setHead {vf' : Value} (h : CutAt w n g vs vl vf (.pointer none) c) (hbn : c.body = none) (p : HdT) : CutAt (((((((w.setCell ⟨g, 4, none⟩ (.string p.1)).setCell ⟨g, 5, none⟩ (.string p.2.1)).setCell ⟨g, 6, none⟩ vf').setCell ⟨g, 7, none⟩ (.string p.2.2.2.1)).setCell ⟨g, 8, none⟩ (.bool p.2.2.2.2.1)).setCell ⟨g, 9, none⟩ (.int .i64 p.2.2.2.2.2.1)).setCell ⟨g, 10, none⟩ (.int .i64 p.2.2.2.2.2.2)) n g vs vl vf' (.pointer none) (hdC c p) := by
  have b4 := blk_set h.blk 4 (.string p.1)
  have b5 := blk_set b4 5 (.string p.2.1)
  have b6 := blk_set b5 6 vf'
  have b7 := blk_set b6 7 (.string p.2.2.2.1)
  have b8 := blk_set b7 8 (.bool p.2.2.2.2.1)
  have b9 := blk_set b8 9 (.int .i64 p.2.2.2.2.2.1)
  have b10 := blk_set b9 10 (.int .i64 p.2.2.2.2.2.2)
  have hty : ∀ q, q ∈ (9 :: Kd.string.E) → q ≠ 59 := by decide
  have l4 := Kd.R_set h.lines h.blk hty 4 (.string p.1)
  have l5 := Kd.R_set l4 b4 hty 5 (.string p.2.1)
  have l6 := Kd.R_set l5 b5 hty 6 vf'
  have l7 := Kd.R_set l6 b6 hty 7 (.string p.2.2.2.1)
  have l8 := Kd.R_set l7 b7 hty 8 (.bool p.2.2.2.2.1)
  have l9 := Kd.R_set l8 b8 hty 9 (.int .i64 p.2.2.2.2.2.1)
  have l10 := Kd.R_set l9 b9 hty 10 (.int .i64 p.2.2.2.2.2.2)
  have hne : some g ≠ vl.ownBlock := own_ne h.line h.blk (by decide)
  exact ⟨h.ge, by simpa [hdC] using b10, l10, ((((((h.line.set hne _).set hne _).set hne _).set hne _).set hne _).set hne _).set hne _, .inl ⟨hbn, rfl⟩⟩
theorem CutAt.setBody (h : CutAt w n g vs (.slice none 0 0) vf (.pointer none) c) (hl : c.line = []) (hB : BodyOwn w (bas n) v1 b) (hf : Kd.R k62 62 w n (fun _ => True) vf c.hf) : CutAt (w.setCell ⟨g, 11, none⟩ v1) n g vs (.slice none 0 0) vf v1 { c with body := some b } :=
  ⟨h.ge, by simpa using blk_set h.blk 11 v1, h.linesFar, h.lineFar, .inr ⟨b, rfl, hl, rfl, bodyOwn_far hB h.blk, Kd.R_set hf h.blk (by intro q hq; revert q; decide) 11 v1⟩⟩
theorem CutFrame.grown {row : Option Nat} {t : Nat} (h : CutFrame n w w0) (hb : Below n w w1) (hg : w0.grownBy w1 row) (hty : ∀ j, row = some j → ∃ cells, w0.heap[j]? = some (.cells cells t (0, 0))) (ht : t = 9 ∨ t = 5) : CutFrame n w w1 :=
  ⟨hb, fun j o hj ho => by
    have h1 := h.other j o hj ho
    refine (hg.block j (blk_lt h1) (fun e => ?_)).trans h1
    obtain ⟨cells, hc⟩ := hty j e.symm
    rw [h1] at hc
    have h2 := ho _ _ _ (Option.some.inj hc)
    rcases ht with rfl | rfl
    · exact h2.2.2.1 rfl
    · exact h2.2.2.2 rfl⟩
end
def ByteOK (B : Nat) (w' : World) (n g : Nat) (r : CutS) : Prop := ∃ vs' vl' vf' vb', CutAt w' n g vs' vl' vf' vb' r ∧ (r.body = none ∨ ∀ q, vf'.ownBlock = some q → B ≤ q)
theorem cut_cells {W : World} {n g g1 n1 cp1 : Nat} {vs vf : Value} {c : CutS} (h : CutAt W n g vs (.slice (some ⟨g1, 0, none⟩) n1 cp1) vf (.pointer none) c) :
    ∀ (i : Nat) (x : UInt8), c.line[i]? = some x → W.cell? ⟨g1, i, none⟩ = some (.int .u8 (x.toNat : Int)) := by
  have h := h.line
  unfold OwnBytes at h
  intro i x hx
  have := h.cells (g := g1) rfl i (.int .u8 (x.toNat : Int)) (by simp only [nums, nts, List.getElem?_map, hx, Option.map_some])
  rwa [add_plain] at this
theorem strs_info : (Tryd.prog.info? 9).map (fun i => (i.zero, i.size, i.bytes)) = some (some (.string ⟨#[]⟩), 1, 16) := by kernel_rfl
set_option maxHeartbeats 4000000 in
set_option maxRecDepth 100000 in
theorem byte_big (k n g n1 : Nat) (vf : Value) (As A : Option Addr) (cs cp : Nat) (c : CutS) (x : UInt8) (s1 : Int) (r : CutS) (w : World) (h : CutAt w n g (.slice As c.lines.length cs) (.slice A c.line.length cp) vf (.pointer none) c) (hbn : c.body = none) (h1000 : c.line.length ≤ 1000) (hn1 : n1 = c.line.length + 1) (hs1 : s1 = c.size + 1) (hs0 : 0 ≤ c.size) (hs2 : c.size ≤ 1000) (hbig : s1 > 1000) (hr : r = failC { c with size := s1 } 431) :
    Calls Tryd.prog 25 #[.pointer (some ⟨g, 0, none⟩), .int .u8 (x.toNat : Int)] w fun e w' => e = .returned (.tuple #[]) ∧ ByteOK w.heap.size w' n g r ∧ CutFrame n w w' := by
  have hbs : n ≤ w.heap.size := Nat.le_trans h.ge (Nat.le_of_lt (blk_lt h.blk))
  have c3 : w.cell? ⟨g, 3, none⟩ = some (.int .i64 c.size) := (blk_cell h.blk 3).trans rfl
  have f3 := blk_frozen h.blk 3
  have c2 : w.cell? ⟨g, 2, none⟩ = some (.slice A c.line.length cp) := (blk_cell h.blk 2).trans rfl
  have q2 : IntKind.i64.wrap (c.size + 1) = s1 := by rw [IntKind.wrap_i64]; omega
  have q3 : wrap64 (c.size + 1) = s1 := by unfold wrap64; omega
  have H := Lib.hid h
  have H1 := Lib.hid (show CutAt (w.setCell ⟨g, 3, none⟩ (.int .i64 s1)) n g (.slice As c.lines.length cs) (.slice A c.line.length cp) vf (.pointer none) { c with size := s1 } from h.setSize s1)
  have FA := Lib.hid (show CutFrame n w (w.setCell ⟨g, 3, none⟩ (.int .i64 s1)) from (CutFrame.refl n w).set h.blk h.ge)
  have HS := Lib.hid hbs
  have HBN := Lib.hid hbn
  have HN := Lib.hid h1000
  have HN1 := Lib.hid hn1
  have t2 : decide (1000 < s1) = true := decide_eq_true (by omega)
  have HR := Lib.hid hr
  clear hbig hr h hbs hbn h1000 hn1 hs1 hs0 hs2
  go_enter Tryd.func25, Tryd.ntmps25
  go_wp2_with (first | (go_at_call 34; refine (cut_fail n g (.slice As c.lines.length cs) (.slice A c.line.length cp) vf (.pointer none) { c with size := s1 } 431 _ H1.out).mono ?_; rintro e w3 ⟨rfl, hb1, hb2⟩; have HC2 := Lib.hid hb1; have HD := Lib.hid hb2; clear hb1 hb2))
  first | go_ret | go_end0 | ((try simp only [Exit.inBlock, Exit.then]); refine bodyPost_ret (results_none rfl _ _ _) rfl ?_)
  exact ⟨rfl, ⟨_, _, _, _, by rw [HR.out]; exact HC2.out, .inl (by rw [HR.out]; exact HBN.out)⟩, FA.out.trans HD.out⟩
set_option maxHeartbeats 4000000 in
set_option maxRecDepth 100000 in
theorem byte_bone (k n g n1 : Nat) (vf : Value) (As A : Option Addr) (cs cp : Nat) (c : CutS) (x : UInt8) (s1 : Int) (r : CutS) (w : World) (h : CutAt w n g (.slice As c.lines.length cs) (.slice A c.line.length cp) vf (.pointer none) c) (hbn : c.body = none) (h1000 : c.line.length ≤ 1000) (hn1 : n1 = c.line.length + 1) (hs1 : s1 = c.size + 1) (hs0 : 0 ≤ c.size) (hs2 : c.size ≤ 1000) (hsm : s1 ≤ 1000) (hx10 : x.toNat ≠ 10) (h1 : n1 = 1)  (hr : r = { c with size := s1, line := c.line ++ [x] }) :
    Calls Tryd.prog 25 #[.pointer (some ⟨g, 0, none⟩), .int .u8 (x.toNat : Int)] w fun e w' => e = .returned (.tuple #[]) ∧ ByteOK w.heap.size w' n g r ∧ CutFrame n w w' := by
  have hbs : n ≤ w.heap.size := Nat.le_trans h.ge (Nat.le_of_lt (blk_lt h.blk))
  have c3 : w.cell? ⟨g, 3, none⟩ = some (.int .i64 c.size) := (blk_cell h.blk 3).trans rfl
  have f3 := blk_frozen h.blk 3
  have c2 : w.cell? ⟨g, 2, none⟩ = some (.slice A c.line.length cp) := (blk_cell h.blk 2).trans rfl
  have q2 : IntKind.i64.wrap (c.size + 1) = s1 := by rw [IntKind.wrap_i64]; omega
  have q3 : wrap64 (c.size + 1) = s1 := by unfold wrap64; omega
  have H := Lib.hid h
  have H1 := Lib.hid (show CutAt (w.setCell ⟨g, 3, none⟩ (.int .i64 s1)) n g (.slice As c.lines.length cs) (.slice A c.line.length cp) vf (.pointer none) { c with size := s1 } from h.setSize s1)
  have FA := Lib.hid (show CutFrame n w (w.setCell ⟨g, 3, none⟩ (.int .i64 s1)) from (CutFrame.refl n w).set h.blk h.ge)
  have HS := Lib.hid hbs
  have HBN := Lib.hid hbn
  have HN := Lib.hid h1000
  have HN1 := Lib.hid hn1
  have t2 : decide (1000 < s1) = false := decide_eq_false (by omega)
  have z1 : decide (1 < n1) = false := decide_eq_false (by omega)
  have z2 : decide (1 < (n1 : Int)) = false := decide_eq_false (by omega)
  have z3 : decide (n1 < 2) = true := decide_eq_true (by omega)
  have z4 : decide ((n1 : Int) < 2) = true := decide_eq_true (by omega)
  have u1 : ((x.toNat : Int) != 10) = true := bne_iff_ne.2 (by omega)
  have HR := Lib.hid hr
  clear hsm hx10 hr h1 h hbs hbn h1000 hn1 hs1 hs0 hs2
  go_enter Tryd.func25, Tryd.ntmps25
  go_wp2_with (first | ((with_reducible refine gate_builtin (b := .append) (xs := #[.tmp 23, .tmp 25]) rfl ?_); at_builtin; refine print_append_num (w0 := w) n rfl (.tmp 23) (.tmp 25) 46 5 .u8 1 rfl Tryd.underlying46 body_info (by decide) (.slice A c.line.length cp) (nts c.line) (x.toNat : Int) rfl ?aX ?aO ?aB ?aS ?aL ?_; (case aX => rw [World.size_setCell]; rfl); (case aO => rw [nts_len]; exact H1.out.line); (case aB => exact FA.out.below); (case aS => have := blk_lt H1.out.blk; have := H1.out.ge; omega); (case aL => rw [nts_len]; have := HN.out; omega); intro v1 w1 ho hb hg hat; obtain ⟨g1, cp1, rfl, hgb, hgl⟩ := line_form ho HN1.out; have HA := Lib.hid (H1.out.addLine HBN.out (line_own (n1 := n1) ho) hg); have hk := blk_grown H1.out.blk hg (own_ne H1.out.line H1.out.blk (by decide)); have FB := Lib.hid ((FA.out.grown hb hg H1.out.typedLine (.inr rfl)).set (i := 2) (u := .slice (some ⟨g1, 0, none⟩) n1 cp1) hk H1.out.ge); have d2 : w1.cell? ⟨g, 2, none⟩ = some (.slice A c.line.length cp) := (blk_cell hk 2).trans rfl; have fd2 := blk_frozen hk 2; clear ho hb hg hat hk hgb hgl c2 c3 f3))
  first | go_ret | go_end0 | ((try simp only [Exit.inBlock, Exit.then]); refine bodyPost_ret (results_none rfl _ _ _) rfl ?_)
  exact ⟨rfl, ⟨_, _, _, _, by rw [HR.out]; exact HA.out, .inl (by rw [HR.out]; exact HBN.out)⟩, FB.out⟩
set_option maxHeartbeats 4000000 in
set_option maxRecDepth 100000 in
theorem byte_cone (k n g n1 : Nat) (vf : Value) (As A : Option Addr) (cs cp : Nat) (c : CutS) (x : UInt8) (s1 : Int) (r : CutS) (w : World) (h : CutAt w n g (.slice As c.lines.length cs) (.slice A c.line.length cp) vf (.pointer none) c) (hbn : c.body = none) (h1000 : c.line.length ≤ 1000) (hn1 : n1 = c.line.length + 1) (hs1 : s1 = c.size + 1) (hs0 : 0 ≤ c.size) (hs2 : c.size ≤ 1000) (hsm : s1 ≤ 1000) (hx10 : x.toNat = 10) (h1 : n1 = 1)  (hr : r = failC { c with size := s1, line := c.line ++ [x] } 400) :
    Calls Tryd.prog 25 #[.pointer (some ⟨g, 0, none⟩), .int .u8 (x.toNat : Int)] w fun e w' => e = .returned (.tuple #[]) ∧ ByteOK w.heap.size w' n g r ∧ CutFrame n w w' := by
  have hbs : n ≤ w.heap.size := Nat.le_trans h.ge (Nat.le_of_lt (blk_lt h.blk))
  have c3 : w.cell? ⟨g, 3, none⟩ = some (.int .i64 c.size) := (blk_cell h.blk 3).trans rfl
  have f3 := blk_frozen h.blk 3
  have c2 : w.cell? ⟨g, 2, none⟩ = some (.slice A c.line.length cp) := (blk_cell h.blk 2).trans rfl
  have q2 : IntKind.i64.wrap (c.size + 1) = s1 := by rw [IntKind.wrap_i64]; omega
  have q3 : wrap64 (c.size + 1) = s1 := by unfold wrap64; omega
  have H := Lib.hid h
  have H1 := Lib.hid (show CutAt (w.setCell ⟨g, 3, none⟩ (.int .i64 s1)) n g (.slice As c.lines.length cs) (.slice A c.line.length cp) vf (.pointer none) { c with size := s1 } from h.setSize s1)
  have FA := Lib.hid (show CutFrame n w (w.setCell ⟨g, 3, none⟩ (.int .i64 s1)) from (CutFrame.refl n w).set h.blk h.ge)
  have HS := Lib.hid hbs
  have HBN := Lib.hid hbn
  have HN := Lib.hid h1000
  have HN1 := Lib.hid hn1
  have t2 : decide (1000 < s1) = false := decide_eq_false (by omega)
  have z1 : decide (1 < n1) = false := decide_eq_false (by omega)
  have z2 : decide (1 < (n1 : Int)) = false := decide_eq_false (by omega)
  have z3 : decide (n1 < 2) = true := decide_eq_true (by omega)
  have z4 : decide ((n1 : Int) < 2) = true := decide_eq_true (by omega)
  have u1 : ((x.toNat : Int) != 10) = false := bne_eq_false_iff_eq.2 (by omega)
  have HR := Lib.hid hr
  clear hsm hx10 hr h1 h hbs hbn h1000 hn1 hs1 hs0 hs2
  go_enter Tryd.func25, Tryd.ntmps25
  go_wp2_with (first | ((with_reducible refine gate_builtin (b := .append) (xs := #[.tmp 23, .tmp 25]) rfl ?_); at_builtin; refine print_append_num (w0 := w) n rfl (.tmp 23) (.tmp 25) 46 5 .u8 1 rfl Tryd.underlying46 body_info (by decide) (.slice A c.line.length cp) (nts c.line) (x.toNat : Int) rfl ?aX ?aO ?aB ?aS ?aL ?_; (case aX => rw [World.size_setCell]; rfl); (case aO => rw [nts_len]; exact H1.out.line); (case aB => exact FA.out.below); (case aS => have := blk_lt H1.out.blk; have := H1.out.ge; omega); (case aL => rw [nts_len]; have := HN.out; omega); intro v1 w1 ho hb hg hat; obtain ⟨g1, cp1, rfl, hgb, hgl⟩ := line_form ho HN1.out; have HA := Lib.hid (H1.out.addLine HBN.out (line_own (n1 := n1) ho) hg); have hk := blk_grown H1.out.blk hg (own_ne H1.out.line H1.out.blk (by decide)); have FB := Lib.hid ((FA.out.grown hb hg H1.out.typedLine (.inr rfl)).set (i := 2) (u := .slice (some ⟨g1, 0, none⟩) n1 cp1) hk H1.out.ge); have d2 : w1.cell? ⟨g, 2, none⟩ = some (.slice A c.line.length cp) := (blk_cell hk 2).trans rfl; have fd2 := blk_frozen hk 2; clear ho hb hg hat hk hgb hgl c2 c3 f3) | (go_at_call 34; refine (cut_fail n g (.slice As c.lines.length cs) (.slice (some ⟨g1, 0, none⟩) n1 cp1) vf (.pointer none) { c with size := s1, line := c.line ++ [x] } 400 _ HA.out).mono ?_; rintro e w3 ⟨rfl, hb1, hb2⟩; have HC2 := Lib.hid hb1; have HD := Lib.hid hb2; clear hb1 hb2))
  first | go_ret | go_end0 | ((try simp only [Exit.inBlock, Exit.then]); refine bodyPost_ret (results_none rfl _ _ _) rfl ?_)
  exact ⟨rfl, ⟨_, _, _, _, by rw [HR.out]; exact HC2.out, .inl (by rw [HR.out]; exact HBN.out)⟩, FB.out.trans HD.out⟩
set_option maxHeartbeats 4000000 in
set_option maxRecDepth 100000 in
theorem byte_a (k n g n1 : Nat) (vf : Value) (As A : Option Addr) (cs cp : Nat) (c : CutS) (x : UInt8) (s1 : Int) (r : CutS) (w : World) (h : CutAt w n g (.slice As c.lines.length cs) (.slice A c.line.length cp) vf (.pointer none) c) (hbn : c.body = none) (h1000 : c.line.length ≤ 1000) (hn1 : n1 = c.line.length + 1) (hs1 : s1 = c.size + 1) (hs0 : 0 ≤ c.size) (hs2 : c.size ≤ 1000) (hsm : s1 ≤ 1000) (hx10 : x.toNat ≠ 10) (m : Nat) (y : UInt8) (hx : (c.line ++ [x])[m]? = some y) (hm : n1 = m + 2) (hy : y.toNat = 13) (hr : r = failC { c with size := s1, line := c.line ++ [x] } 400) :
    Calls Tryd.prog 25 #[.pointer (some ⟨g, 0, none⟩), .int .u8 (x.toNat : Int)] w fun e w' => e = .returned (.tuple #[]) ∧ ByteOK w.heap.size w' n g r ∧ CutFrame n w w' := by
  have hbs : n ≤ w.heap.size := Nat.le_trans h.ge (Nat.le_of_lt (blk_lt h.blk))
  have c3 : w.cell? ⟨g, 3, none⟩ = some (.int .i64 c.size) := (blk_cell h.blk 3).trans rfl
  have f3 := blk_frozen h.blk 3
  have c2 : w.cell? ⟨g, 2, none⟩ = some (.slice A c.line.length cp) := (blk_cell h.blk 2).trans rfl
  have q2 : IntKind.i64.wrap (c.size + 1) = s1 := by rw [IntKind.wrap_i64]; omega
  have q3 : wrap64 (c.size + 1) = s1 := by unfold wrap64; omega
  have H := Lib.hid h
  have H1 := Lib.hid (show CutAt (w.setCell ⟨g, 3, none⟩ (.int .i64 s1)) n g (.slice As c.lines.length cs) (.slice A c.line.length cp) vf (.pointer none) { c with size := s1 } from h.setSize s1)
  have FA := Lib.hid (show CutFrame n w (w.setCell ⟨g, 3, none⟩ (.int .i64 s1)) from (CutFrame.refl n w).set h.blk h.ge)
  have HS := Lib.hid hbs
  have HBN := Lib.hid hbn
  have HN := Lib.hid h1000
  have HN1 := Lib.hid hn1
  have t2 : decide (1000 < s1) = false := decide_eq_false (by omega)
  have hle : n1 ≤ 1001 := by omega
  have hm3 : m ≤ 999 := by omega
  have z1 : decide (1 < n1) = true := decide_eq_true (by omega)
  have z2 : decide (1 < (n1 : Int)) = true := decide_eq_true (by omega)
  have z3 : decide (n1 < 2) = false := decide_eq_false (by omega)
  have z4 : decide ((n1 : Int) < 2) = false := decide_eq_false (by omega)
  have hq : (n1 : Int) - 2 = (m : Int) := by omega
  have hq2 : IntKind.i64.wrap ((n1 : Int) - 2) = (m : Int) := by rw [IntKind.wrap_i64]; omega
  have hq3 : wrap64 ((n1 : Int) - 2) = (m : Int) := by unfold wrap64; omega
  have hm1 : m < n1 := by omega
  have HX := Lib.hid hx
  have HM := Lib.hid hm
  have u1 : ((x.toNat : Int) != 10) = true := bne_iff_ne.2 (by omega)
  have y1 : ((y.toNat : Int) == 13) = true := beq_iff_eq.2 (by omega)
  have y2 : ((y.toNat : Int) != 13) = false := bne_eq_false_iff_eq.2 (by omega)
  have HR := Lib.hid hr
  clear hsm hx10 hx hm hy hr h hbs hbn h1000 hn1 hs1 hs0 hs2
  go_enter Tryd.func25, Tryd.ntmps25
  go_wp2_with (first | ((with_reducible refine gate_builtin (b := .append) (xs := #[.tmp 23, .tmp 25]) rfl ?_); at_builtin; refine print_append_num (w0 := w) n rfl (.tmp 23) (.tmp 25) 46 5 .u8 1 rfl Tryd.underlying46 body_info (by decide) (.slice A c.line.length cp) (nts c.line) (x.toNat : Int) rfl ?aX ?aO ?aB ?aS ?aL ?_; (case aX => rw [World.size_setCell]; rfl); (case aO => rw [nts_len]; exact H1.out.line); (case aB => exact FA.out.below); (case aS => have := blk_lt H1.out.blk; have := H1.out.ge; omega); (case aL => rw [nts_len]; have := HN.out; omega); intro v1 w1 ho hb hg hat; obtain ⟨g1, cp1, rfl, hgb, hgl⟩ := line_form ho HN1.out; have HA := Lib.hid (H1.out.addLine HBN.out (line_own (n1 := n1) ho) hg); have hk := blk_grown H1.out.blk hg (own_ne H1.out.line H1.out.blk (by decide)); have FB := Lib.hid ((FA.out.grown hb hg H1.out.typedLine (.inr rfl)).set (i := 2) (u := .slice (some ⟨g1, 0, none⟩) n1 cp1) hk H1.out.ge); have d2 : w1.cell? ⟨g, 2, none⟩ = some (.slice A c.line.length cp) := (blk_cell hk 2).trans rfl; have fd2 := blk_frozen hk 2; have HC := Lib.hid (cut_cells HA.out); have dx := HC.out m y HX.out; clear ho hb hg hat hk hgb hgl c2 c3 f3) | (go_at_call 34; refine (cut_fail n g (.slice As c.lines.length cs) (.slice (some ⟨g1, 0, none⟩) n1 cp1) vf (.pointer none) { c with size := s1, line := c.line ++ [x] } 400 _ HA.out).mono ?_; rintro e w3 ⟨rfl, hb1, hb2⟩; have HC2 := Lib.hid hb1; have HD := Lib.hid hb2; clear hb1 hb2))
  first | go_ret | go_end0 | ((try simp only [Exit.inBlock, Exit.then]); refine bodyPost_ret (results_none rfl _ _ _) rfl ?_)
  exact ⟨rfl, ⟨_, _, _, _, by rw [HR.out]; exact HC2.out, .inl (by rw [HR.out]; exact HBN.out)⟩, FB.out.trans HD.out⟩
set_option maxHeartbeats 4000000 in
set_option maxRecDepth 100000 in
theorem byte_btwo (k n g n1 : Nat) (vf : Value) (As A : Option Addr) (cs cp : Nat) (c : CutS) (x : UInt8) (s1 : Int) (r : CutS) (w : World) (h : CutAt w n g (.slice As c.lines.length cs) (.slice A c.line.length cp) vf (.pointer none) c) (hbn : c.body = none) (h1000 : c.line.length ≤ 1000) (hn1 : n1 = c.line.length + 1) (hs1 : s1 = c.size + 1) (hs0 : 0 ≤ c.size) (hs2 : c.size ≤ 1000) (hsm : s1 ≤ 1000) (hx10 : x.toNat ≠ 10) (m : Nat) (y : UInt8) (hx : (c.line ++ [x])[m]? = some y) (hm : n1 = m + 2) (hy : y.toNat ≠ 13) (hr : r = { c with size := s1, line := c.line ++ [x] }) :
    Calls Tryd.prog 25 #[.pointer (some ⟨g, 0, none⟩), .int .u8 (x.toNat : Int)] w fun e w' => e = .returned (.tuple #[]) ∧ ByteOK w.heap.size w' n g r ∧ CutFrame n w w' := by
  have hbs : n ≤ w.heap.size := Nat.le_trans h.ge (Nat.le_of_lt (blk_lt h.blk))
  have c3 : w.cell? ⟨g, 3, none⟩ = some (.int .i64 c.size) := (blk_cell h.blk 3).trans rfl
  have f3 := blk_frozen h.blk 3
  have c2 : w.cell? ⟨g, 2, none⟩ = some (.slice A c.line.length cp) := (blk_cell h.blk 2).trans rfl
  have q2 : IntKind.i64.wrap (c.size + 1) = s1 := by rw [IntKind.wrap_i64]; omega
  have q3 : wrap64 (c.size + 1) = s1 := by unfold wrap64; omega
  have H := Lib.hid h
  have H1 := Lib.hid (show CutAt (w.setCell ⟨g, 3, none⟩ (.int .i64 s1)) n g (.slice As c.lines.length cs) (.slice A c.line.length cp) vf (.pointer none) { c with size := s1 } from h.setSize s1)
  have FA := Lib.hid (show CutFrame n w (w.setCell ⟨g, 3, none⟩ (.int .i64 s1)) from (CutFrame.refl n w).set h.blk h.ge)
  have HS := Lib.hid hbs
  have HBN := Lib.hid hbn
  have HN := Lib.hid h1000
  have HN1 := Lib.hid hn1
  have t2 : decide (1000 < s1) = false := decide_eq_false (by omega)
  have hle : n1 ≤ 1001 := by omega
  have hm3 : m ≤ 999 := by omega
  have z1 : decide (1 < n1) = true := decide_eq_true (by omega)
  have z2 : decide (1 < (n1 : Int)) = true := decide_eq_true (by omega)
  have z3 : decide (n1 < 2) = false := decide_eq_false (by omega)
  have z4 : decide ((n1 : Int) < 2) = false := decide_eq_false (by omega)
  have hq : (n1 : Int) - 2 = (m : Int) := by omega
  have hq2 : IntKind.i64.wrap ((n1 : Int) - 2) = (m : Int) := by rw [IntKind.wrap_i64]; omega
  have hq3 : wrap64 ((n1 : Int) - 2) = (m : Int) := by unfold wrap64; omega
  have hm1 : m < n1 := by omega
  have HX := Lib.hid hx
  have HM := Lib.hid hm
  have u1 : ((x.toNat : Int) != 10) = true := bne_iff_ne.2 (by omega)
  have y1 : ((y.toNat : Int) == 13) = false := beq_eq_false_iff_ne.2 (by omega)
  have y2 : ((y.toNat : Int) != 13) = true := bne_iff_ne.2 (by omega)
  have HR := Lib.hid hr
  clear hsm hx10 hr hy hx hm h hbs hbn h1000 hn1 hs1 hs0 hs2
  go_enter Tryd.func25, Tryd.ntmps25
  go_wp2_with (first | ((with_reducible refine gate_builtin (b := .append) (xs := #[.tmp 23, .tmp 25]) rfl ?_); at_builtin; refine print_append_num (w0 := w) n rfl (.tmp 23) (.tmp 25) 46 5 .u8 1 rfl Tryd.underlying46 body_info (by decide) (.slice A c.line.length cp) (nts c.line) (x.toNat : Int) rfl ?aX ?aO ?aB ?aS ?aL ?_; (case aX => rw [World.size_setCell]; rfl); (case aO => rw [nts_len]; exact H1.out.line); (case aB => exact FA.out.below); (case aS => have := blk_lt H1.out.blk; have := H1.out.ge; omega); (case aL => rw [nts_len]; have := HN.out; omega); intro v1 w1 ho hb hg hat; obtain ⟨g1, cp1, rfl, hgb, hgl⟩ := line_form ho HN1.out; have HA := Lib.hid (H1.out.addLine HBN.out (line_own (n1 := n1) ho) hg); have hk := blk_grown H1.out.blk hg (own_ne H1.out.line H1.out.blk (by decide)); have FB := Lib.hid ((FA.out.grown hb hg H1.out.typedLine (.inr rfl)).set (i := 2) (u := .slice (some ⟨g1, 0, none⟩) n1 cp1) hk H1.out.ge); have d2 : w1.cell? ⟨g, 2, none⟩ = some (.slice A c.line.length cp) := (blk_cell hk 2).trans rfl; have fd2 := blk_frozen hk 2; have HC := Lib.hid (cut_cells HA.out); have dx := HC.out m y HX.out; clear ho hb hg hat hk hgb hgl c2 c3 f3))
  first | go_ret | go_end0 | ((try simp only [Exit.inBlock, Exit.then]); refine bodyPost_ret (results_none rfl _ _ _) rfl ?_)
  exact ⟨rfl, ⟨_, _, _, _, by rw [HR.out]; exact HA.out, .inl (by rw [HR.out]; exact HBN.out)⟩, FB.out⟩
set_option maxHeartbeats 4000000 in
set_option maxRecDepth 100000 in
theorem byte_ctwo (k n g n1 : Nat) (vf : Value) (As A : Option Addr) (cs cp : Nat) (c : CutS) (x : UInt8) (s1 : Int) (r : CutS) (w : World) (h : CutAt w n g (.slice As c.lines.length cs) (.slice A c.line.length cp) vf (.pointer none) c) (hbn : c.body = none) (h1000 : c.line.length ≤ 1000) (hn1 : n1 = c.line.length + 1) (hs1 : s1 = c.size + 1) (hs0 : 0 ≤ c.size) (hs2 : c.size ≤ 1000) (hsm : s1 ≤ 1000) (hx10 : x.toNat = 10) (m : Nat) (y : UInt8) (hx : (c.line ++ [x])[m]? = some y) (hm : n1 = m + 2) (hy : y.toNat ≠ 13) (hr : r = failC { c with size := s1, line := c.line ++ [x] } 400) :
    Calls Tryd.prog 25 #[.pointer (some ⟨g, 0, none⟩), .int .u8 (x.toNat : Int)] w fun e w' => e = .returned (.tuple #[]) ∧ ByteOK w.heap.size w' n g r ∧ CutFrame n w w' := by
  have hbs : n ≤ w.heap.size := Nat.le_trans h.ge (Nat.le_of_lt (blk_lt h.blk))
  have c3 : w.cell? ⟨g, 3, none⟩ = some (.int .i64 c.size) := (blk_cell h.blk 3).trans rfl
  have f3 := blk_frozen h.blk 3
  have c2 : w.cell? ⟨g, 2, none⟩ = some (.slice A c.line.length cp) := (blk_cell h.blk 2).trans rfl
  have q2 : IntKind.i64.wrap (c.size + 1) = s1 := by rw [IntKind.wrap_i64]; omega
  have q3 : wrap64 (c.size + 1) = s1 := by unfold wrap64; omega
  have H := Lib.hid h
  have H1 := Lib.hid (show CutAt (w.setCell ⟨g, 3, none⟩ (.int .i64 s1)) n g (.slice As c.lines.length cs) (.slice A c.line.length cp) vf (.pointer none) { c with size := s1 } from h.setSize s1)
  have FA := Lib.hid (show CutFrame n w (w.setCell ⟨g, 3, none⟩ (.int .i64 s1)) from (CutFrame.refl n w).set h.blk h.ge)
  have HS := Lib.hid hbs
  have HBN := Lib.hid hbn
  have HN := Lib.hid h1000
  have HN1 := Lib.hid hn1
  have t2 : decide (1000 < s1) = false := decide_eq_false (by omega)
  have hle : n1 ≤ 1001 := by omega
  have hm3 : m ≤ 999 := by omega
  have z1 : decide (1 < n1) = true := decide_eq_true (by omega)
  have z2 : decide (1 < (n1 : Int)) = true := decide_eq_true (by omega)
  have z3 : decide (n1 < 2) = false := decide_eq_false (by omega)
  have z4 : decide ((n1 : Int) < 2) = false := decide_eq_false (by omega)
  have hq : (n1 : Int) - 2 = (m : Int) := by omega
  have hq2 : IntKind.i64.wrap ((n1 : Int) - 2) = (m : Int) := by rw [IntKind.wrap_i64]; omega
  have hq3 : wrap64 ((n1 : Int) - 2) = (m : Int) := by unfold wrap64; omega
  have hm1 : m < n1 := by omega
  have HX := Lib.hid hx
  have HM := Lib.hid hm
  have u1 : ((x.toNat : Int) != 10) = false := bne_eq_false_iff_eq.2 (by omega)
  have y1 : ((y.toNat : Int) == 13) = false := beq_eq_false_iff_ne.2 (by omega)
  have y2 : ((y.toNat : Int) != 13) = true := bne_iff_ne.2 (by omega)
  have HR := Lib.hid hr
  clear hsm hx10 hr hy hx hm h hbs hbn h1000 hn1 hs1 hs0 hs2
  go_enter Tryd.func25, Tryd.ntmps25
  go_wp2_with (first | ((with_reducible refine gate_builtin (b := .append) (xs := #[.tmp 23, .tmp 25]) rfl ?_); at_builtin; refine print_append_num (w0 := w) n rfl (.tmp 23) (.tmp 25) 46 5 .u8 1 rfl Tryd.underlying46 body_info (by decide) (.slice A c.line.length cp) (nts c.line) (x.toNat : Int) rfl ?aX ?aO ?aB ?aS ?aL ?_; (case aX => rw [World.size_setCell]; rfl); (case aO => rw [nts_len]; exact H1.out.line); (case aB => exact FA.out.below); (case aS => have := blk_lt H1.out.blk; have := H1.out.ge; omega); (case aL => rw [nts_len]; have := HN.out; omega); intro v1 w1 ho hb hg hat; obtain ⟨g1, cp1, rfl, hgb, hgl⟩ := line_form ho HN1.out; have HA := Lib.hid (H1.out.addLine HBN.out (line_own (n1 := n1) ho) hg); have hk := blk_grown H1.out.blk hg (own_ne H1.out.line H1.out.blk (by decide)); have FB := Lib.hid ((FA.out.grown hb hg H1.out.typedLine (.inr rfl)).set (i := 2) (u := .slice (some ⟨g1, 0, none⟩) n1 cp1) hk H1.out.ge); have d2 : w1.cell? ⟨g, 2, none⟩ = some (.slice A c.line.length cp) := (blk_cell hk 2).trans rfl; have fd2 := blk_frozen hk 2; have HC := Lib.hid (cut_cells HA.out); have dx := HC.out m y HX.out; clear ho hb hg hat hk hgb hgl c2 c3 f3) | (go_at_call 34; refine (cut_fail n g (.slice As c.lines.length cs) (.slice (some ⟨g1, 0, none⟩) n1 cp1) vf (.pointer none) { c with size := s1, line := c.line ++ [x] } 400 _ HA.out).mono ?_; rintro e w3 ⟨rfl, hb1, hb2⟩; have HC2 := Lib.hid hb1; have HD := Lib.hid hb2; clear hb1 hb2))
  first | go_ret | go_end0 | ((try simp only [Exit.inBlock, Exit.then]); refine bodyPost_ret (results_none rfl _ _ _) rfl ?_)
  exact ⟨rfl, ⟨_, _, _, _, by rw [HR.out]; exact HC2.out, .inl (by rw [HR.out]; exact HBN.out)⟩, FB.out.trans HD.out⟩
set_option maxHeartbeats 4000000 in
set_option maxRecDepth 100000 in
theorem byte_d (k n g n1 : Nat) (vf : Value) (As A : Option Addr) (cs cp : Nat) (c : CutS) (x : UInt8) (s1 : Int) (r : CutS) (w : World) (h : CutAt w n g (.slice As c.lines.length cs) (.slice A c.line.length cp) vf (.pointer none) c) (hbn : c.body = none) (h1000 : c.line.length ≤ 1000) (hn1 : n1 = c.line.length + 1) (hs1 : s1 = c.size + 1) (hs0 : 0 ≤ c.size) (hs2 : c.size ≤ 1000) (hsm : s1 ≤ 1000) (hx10 : x.toNat = 10) (m : Nat) (y : UInt8) (hx : (c.line ++ [x])[m]? = some y) (hm : n1 = m + 2) (hy : y.toNat = 13) (h2 : n1 = 2) (hl0 : c.lines.length = 0) (hr : r = { c with size := 0, line := [] }) :
    Calls Tryd.prog 25 #[.pointer (some ⟨g, 0, none⟩), .int .u8 (x.toNat : Int)] w fun e w' => e = .returned (.tuple #[]) ∧ ByteOK w.heap.size w' n g r ∧ CutFrame n w w' := by
  have hbs : n ≤ w.heap.size := Nat.le_trans h.ge (Nat.le_of_lt (blk_lt h.blk))
  have c3 : w.cell? ⟨g, 3, none⟩ = some (.int .i64 c.size) := (blk_cell h.blk 3).trans rfl
  have f3 := blk_frozen h.blk 3
  have c2 : w.cell? ⟨g, 2, none⟩ = some (.slice A c.line.length cp) := (blk_cell h.blk 2).trans rfl
  have q2 : IntKind.i64.wrap (c.size + 1) = s1 := by rw [IntKind.wrap_i64]; omega
  have q3 : wrap64 (c.size + 1) = s1 := by unfold wrap64; omega
  have H := Lib.hid h
  have H1 := Lib.hid (show CutAt (w.setCell ⟨g, 3, none⟩ (.int .i64 s1)) n g (.slice As c.lines.length cs) (.slice A c.line.length cp) vf (.pointer none) { c with size := s1 } from h.setSize s1)
  have FA := Lib.hid (show CutFrame n w (w.setCell ⟨g, 3, none⟩ (.int .i64 s1)) from (CutFrame.refl n w).set h.blk h.ge)
  have HS := Lib.hid hbs
  have HBN := Lib.hid hbn
  have HN := Lib.hid h1000
  have HN1 := Lib.hid hn1
  have t2 : decide (1000 < s1) = false := decide_eq_false (by omega)
  have hle : n1 ≤ 1001 := by omega
  have hm3 : m ≤ 999 := by omega
  have z1 : decide (1 < n1) = true := decide_eq_true (by omega)
  have z2 : decide (1 < (n1 : Int)) = true := decide_eq_true (by omega)
  have z3 : decide (n1 < 2) = false := decide_eq_false (by omega)
  have z4 : decide ((n1 : Int) < 2) = false := decide_eq_false (by omega)
  have hq : (n1 : Int) - 2 = (m : Int) := by omega
  have hq2 : IntKind.i64.wrap ((n1 : Int) - 2) = (m : Int) := by rw [IntKind.wrap_i64]; omega
  have hq3 : wrap64 ((n1 : Int) - 2) = (m : Int) := by unfold wrap64; omega
  have hm1 : m < n1 := by omega
  have HX := Lib.hid hx
  have HM := Lib.hid hm
  have u1 : ((x.toNat : Int) != 10) = false := bne_eq_false_iff_eq.2 (by omega)
  have y1 : ((y.toNat : Int) == 13) = true := beq_iff_eq.2 (by omega)
  have y2 : ((y.toNat : Int) != 13) = false := bne_eq_false_iff_eq.2 (by omega)
  have w1e : ((n1 : Int) == 2) = true := beq_iff_eq.2 (by omega)
  have w2e : (n1 == 2) = true := beq_iff_eq.2 (by omega)
  have w3e : ((c.lines.length : Int) == 0) = true := beq_iff_eq.2 (by omega)
  have w4e : (c.lines.length == 0) = true := beq_iff_eq.2 (by omega)
  have HR := Lib.hid hr
  clear hsm hx10 hx hm hy hr h2 hl0 h hbs hbn h1000 hn1 hs1 hs0 hs2
  go_enter Tryd.func25, Tryd.ntmps25
  go_wp2_with (first | ((with_reducible refine gate_builtin (b := .append) (xs := #[.tmp 23, .tmp 25]) rfl ?_); at_builtin; refine print_append_num (w0 := w) n rfl (.tmp 23) (.tmp 25) 46 5 .u8 1 rfl Tryd.underlying46 body_info (by decide) (.slice A c.line.length cp) (nts c.line) (x.toNat : Int) rfl ?aX ?aO ?aB ?aS ?aL ?_; (case aX => rw [World.size_setCell]; rfl); (case aO => rw [nts_len]; exact H1.out.line); (case aB => exact FA.out.below); (case aS => have := blk_lt H1.out.blk; have := H1.out.ge; omega); (case aL => rw [nts_len]; have := HN.out; omega); intro v1 w1 ho hb hg hat; obtain ⟨g1, cp1, rfl, hgb, hgl⟩ := line_form ho HN1.out; have HA := Lib.hid (H1.out.addLine HBN.out (line_own (n1 := n1) ho) hg); have hk := blk_grown H1.out.blk hg (own_ne H1.out.line H1.out.blk (by decide)); have FB := Lib.hid ((FA.out.grown hb hg H1.out.typedLine (.inr rfl)).set (i := 2) (u := .slice (some ⟨g1, 0, none⟩) n1 cp1) hk H1.out.ge); have d2 : w1.cell? ⟨g, 2, none⟩ = some (.slice A c.line.length cp) := (blk_cell hk 2).trans rfl; have d1 : w1.cell? ⟨g, 1, none⟩ = some (.slice As c.lines.length cs) := (blk_cell hk 1).trans rfl; have d3 : w1.cell? ⟨g, 3, none⟩ = some (.int .i64 s1) := (blk_cell hk 3).trans rfl; have fd2 := blk_frozen hk 2; have fd1 := blk_frozen hk 1; have fd3 := blk_frozen hk 3; have HC := Lib.hid (cut_cells HA.out); have dx := HC.out m y HX.out; clear ho hb hg hat hk hgb hgl c2 c3 f3))
  first | go_ret | go_end0 | ((try simp only [Exit.inBlock, Exit.then]); refine bodyPost_ret (results_none rfl _ _ _) rfl ?_)
  have p1 := HA.out.nilLine HBN.out
  exact ⟨rfl, ⟨_, _, _, _, by rw [HR.out]; exact p1.setSize 0, .inl (by rw [HR.out]; exact HBN.out)⟩, (FB.out.set HA.out.blk HA.out.ge).set p1.blk p1.ge⟩
set_option maxHeartbeats 4000000 in
set_option maxRecDepth 100000 in
theorem byte_f (k n g n1 : Nat) (vf : Value) (As A : Option Addr) (cs cp : Nat) (c : CutS) (x : UInt8) (s1 : Int) (r : CutS) (w : World) (h : CutAt w n g (.slice As c.lines.length cs) (.slice A c.line.length cp) vf (.pointer none) c) (hbn : c.body = none) (h1000 : c.line.length ≤ 1000) (hn1 : n1 = c.line.length + 1) (hs1 : s1 = c.size + 1) (hs0 : 0 ≤ c.size) (hs2 : c.size ≤ 1000) (hsm : s1 ≤ 1000) (hx10 : x.toNat = 10) (m : Nat) (y : UInt8) (hx : (c.line ++ [x])[m]? = some y) (hm : n1 = m + 2) (hy : y.toNat = 13) (h2 : n1 ≠ 2) (hll : c.lines.length ≤ 1000) (hr : r = { c with size := s1, lines := c.lines ++ [strOfNums (nts ((c.line ++ [x]).take m))], line := [] }) :
    Calls Tryd.prog 25 #[.pointer (some ⟨g, 0, none⟩), .int .u8 (x.toNat : Int)] w fun e w' => e = .returned (.tuple #[]) ∧ ByteOK w.heap.size w' n g r ∧ CutFrame n w w' := by
  have hbs : n ≤ w.heap.size := Nat.le_trans h.ge (Nat.le_of_lt (blk_lt h.blk))
  have c3 : w.cell? ⟨g, 3, none⟩ = some (.int .i64 c.size) := (blk_cell h.blk 3).trans rfl
  have f3 := blk_frozen h.blk 3
  have c2 : w.cell? ⟨g, 2, none⟩ = some (.slice A c.line.length cp) := (blk_cell h.blk 2).trans rfl
  have q2 : IntKind.i64.wrap (c.size + 1) = s1 := by rw [IntKind.wrap_i64]; omega
  have q3 : wrap64 (c.size + 1) = s1 := by unfold wrap64; omega
  have H := Lib.hid h
  have H1 := Lib.hid (show CutAt (w.setCell ⟨g, 3, none⟩ (.int .i64 s1)) n g (.slice As c.lines.length cs) (.slice A c.line.length cp) vf (.pointer none) { c with size := s1 } from h.setSize s1)
  have FA := Lib.hid (show CutFrame n w (w.setCell ⟨g, 3, none⟩ (.int .i64 s1)) from (CutFrame.refl n w).set h.blk h.ge)
  have HS := Lib.hid hbs
  have HBN := Lib.hid hbn
  have HN := Lib.hid h1000
  have HN1 := Lib.hid hn1
  have t2 : decide (1000 < s1) = false := decide_eq_false (by omega)
  have hle : n1 ≤ 1001 := by omega
  have hm3 : m ≤ 999 := by omega
  have z1 : decide (1 < n1) = true := decide_eq_true (by omega)
  have z2 : decide (1 < (n1 : Int)) = true := decide_eq_true (by omega)
  have z3 : decide (n1 < 2) = false := decide_eq_false (by omega)
  have z4 : decide ((n1 : Int) < 2) = false := decide_eq_false (by omega)
  have hq : (n1 : Int) - 2 = (m : Int) := by omega
  have hq2 : IntKind.i64.wrap ((n1 : Int) - 2) = (m : Int) := by rw [IntKind.wrap_i64]; omega
  have hq3 : wrap64 ((n1 : Int) - 2) = (m : Int) := by unfold wrap64; omega
  have hm1 : m < n1 := by omega
  have HX := Lib.hid hx
  have HM := Lib.hid hm
  have u1 : ((x.toNat : Int) != 10) = false := bne_eq_false_iff_eq.2 (by omega)
  have y1 : ((y.toNat : Int) == 13) = true := beq_iff_eq.2 (by omega)
  have y2 : ((y.toNat : Int) != 13) = false := bne_eq_false_iff_eq.2 (by omega)
  have w1e : ((n1 : Int) == 2) = false := beq_eq_false_iff_ne.2 (by omega)
  have w2e : (n1 == 2) = false := beq_eq_false_iff_ne.2 (by omega)
  have HLL := Lib.hid hll
  have HR := Lib.hid hr
  clear hsm hx10 hx hm hy hr h2 hll h hbs hbn h1000 hn1 hs1 hs0 hs2
  go_enter Tryd.func25, Tryd.ntmps25
  go_wp2_with (first | ((with_reducible refine gate_builtin (b := .append) (xs := #[.tmp 23, .tmp 25]) rfl ?_); at_builtin; refine print_append_num (w0 := w) n rfl (.tmp 23) (.tmp 25) 46 5 .u8 1 rfl Tryd.underlying46 body_info (by decide) (.slice A c.line.length cp) (nts c.line) (x.toNat : Int) rfl ?aX ?aO ?aB ?aS ?aL ?_; (case aX => rw [World.size_setCell]; rfl); (case aO => rw [nts_len]; exact H1.out.line); (case aB => exact FA.out.below); (case aS => have := blk_lt H1.out.blk; have := H1.out.ge; omega); (case aL => rw [nts_len]; have := HN.out; omega); intro v1 w1 ho hb hg hat; obtain ⟨g1, cp1, rfl, hgb, hgl⟩ := line_form ho HN1.out; have HA := Lib.hid (H1.out.addLine HBN.out (line_own (n1 := n1) ho) hg); have hk := blk_grown H1.out.blk hg (own_ne H1.out.line H1.out.blk (by decide)); have FB := Lib.hid ((FA.out.grown hb hg H1.out.typedLine (.inr rfl)).set (i := 2) (u := .slice (some ⟨g1, 0, none⟩) n1 cp1) hk H1.out.ge); have d2 : w1.cell? ⟨g, 2, none⟩ = some (.slice A c.line.length cp) := (blk_cell hk 2).trans rfl; have d1 : w1.cell? ⟨g, 1, none⟩ = some (.slice As c.lines.length cs) := (blk_cell hk 1).trans rfl; have fd2 := blk_frozen hk 2; have fd1 := blk_frozen hk 1; have HC := Lib.hid (cut_cells HA.out); have dx := HC.out m y HX.out; clear ho hb hg hat hk hgb hgl c2 c3 f3))
  have HD1 := Lib.hid (HA.out.below (below_drew (Below.refl _ _)))
  have FD := Lib.hid (FB.out.trans (CutFrame.ofBelow (below_drew (Below.refl _ _)) (by have := blk_lt HA.out.blk; have := HA.out.ge; omega)))
  have hcp := line_cap HA.out.line
  have y3 : decide ((m : Int) ≤ (cp1 : Int)) = true := decide_eq_true (by omega)
  have y4 : m ≤ cp1 := (by omega)
  clear hcp hq hq2
  refine start_ (n := 22) (S := fun w' => w'.cell? ⟨g, 1, none⟩ = some (.slice As c.lines.length cs) ∧ w'.cell? ⟨g, 2, none⟩ = some (.slice (some ⟨g1, 0, none⟩) n1 cp1) ∧ (convert 46 9 (.slice (some ⟨g1, 0, none⟩) m cp1)).run Tryd.prog w' = .ok (.string (strOfNums (nts ((c.line ++ [x]).take m)))) w') (ds := [15, 18, 21]) #[false, false, false, false, false, false, false, false, false, false, false, false, false, false, false, false, false, false, false, false, false, false] (by kernel_rfl) rfl rfl ⟨(blk_cell HD1.out.blk 1).trans rfl, (blk_cell HD1.out.blk 2).trans rfl, line_conv HD1.out.line m (by omega)⟩ (fun hHeld => ?_)
  refine pure_ (i := 0) (N := some 34) (v := ?_) (a' := ?_) #[true, false, false, false, false, false, false, false, false, false, false, false, false, false, false, false, false, false, false, false, false, false] rfl rfl (by kernel_rfl) (fun _ _ _ h => h) (Or.inl ⟨by rfl, ?_⟩) ?_ ?_
  rotate_left
  · intro w'
    go_simp
    with_reducible rfl
  rotate_left
  · simp only [Act.put, List.setIfInBounds_toArray, List.set_cons_zero, List.set_cons_succ, i64_w, i32_w]
    rfl
  refine pure_ (i := 1) (N := some 35) (v := ?_) (a' := ?_) #[true, true, false, false, false, false, false, false, false, false, false, false, false, false, false, false, false, false, false, false, false, false] rfl rfl (by kernel_rfl) (fun _ _ _ h => h) (Or.inl ⟨by rfl, ?_⟩) ?_ ?_
  rotate_left
  · intro w'
    go_simp
    with_reducible rfl
  rotate_left
  · simp only [Act.put, List.setIfInBounds_toArray, List.set_cons_zero, List.set_cons_succ, i64_w, i32_w]
    rfl
  refine pure_ (i := 2) (N := some 36) (v := ?_) (a' := ?_) #[true, true, true, false, false, false, false, false, false, false, false, false, false, false, false, false, false, false, false, false, false, false] rfl rfl (by kernel_rfl) (fun _ _ _ h => h) (Or.inl ⟨by rfl, ?_⟩) ?_ ?_
  rotate_left
  · intro w'
    go_simp
    with_reducible rfl
  rotate_left
  · simp only [Act.put, List.setIfInBounds_toArray, List.set_cons_zero, List.set_cons_succ, i64_w, i32_w]
    rfl
  refine pure_ (i := 3) (N := some 37) (v := ?_) (a' := ?_) #[true, true, true, true, false, false, false, false, false, false, false, false, false, false, false, false, false, false, false, false, false, false] rfl rfl (by kernel_rfl) (fun _ _ _ h => h) (Or.inl ⟨by rfl, ?_⟩) ?_ ?_
  rotate_left
  · intro w'
    go_simp
    with_reducible rfl
  rotate_left
  · simp only [Act.put, List.setIfInBounds_toArray, List.set_cons_zero, List.set_cons_succ, i64_w, i32_w]
    rfl
  refine pure_ (i := 4) (N := some 38) (v := ?_) (a' := ?_) #[true, true, true, true, true, false, false, false, false, false, false, false, false, false, false, false, false, false, false, false, false, false] rfl rfl (by kernel_rfl) (fun _ _ _ h => h) (Or.inl ⟨by rfl, ?_⟩) ?_ ?_
  rotate_left
  · intro w'
    go_simp
    with_reducible rfl
  rotate_left
  · simp only [Act.put, List.setIfInBounds_toArray, List.set_cons_zero, List.set_cons_succ, i64_w, i32_w]
    rfl
  refine pure_ (i := 6) (N := some 40) (v := ?_) (a' := ?_) #[true, true, true, true, true, false, true, false, false, false, false, false, false, false, false, false, false, false, false, false, false, false] rfl rfl (by kernel_rfl) (fun _ _ _ h => h) (Or.inl ⟨by rfl, ?_⟩) ?_ ?_
  rotate_left
  · intro w'
    go_simp
    with_reducible rfl
  rotate_left
  · simp only [Act.put, List.setIfInBounds_toArray, List.set_cons_zero, List.set_cons_succ, i64_w, i32_w]
    rfl
  refine pure_ (i := 7) (N := some 41) (v := ?_) (a' := ?_) #[true, true, true, true, true, false, true, true, false, false, false, false, false, false, false, false, false, false, false, false, false, false] rfl rfl (by kernel_rfl) (fun _ _ _ h => h) (Or.inl ⟨by rfl, ?_⟩) ?_ ?_
  rotate_left
  · intro w'
    go_simp
    with_reducible rfl
  rotate_left
  · simp only [Act.put, List.setIfInBounds_toArray, List.set_cons_zero, List.set_cons_succ, i64_w, i32_w]
    rfl
  refine pure_ (i := 8) (N := some 42) (v := ?_) (a' := ?_) #[true, true, true, true, true, false, true, true, true, false, false, false, false, false, false, false, false, false, false, false, false, false] rfl rfl (by kernel_rfl) (fun _ _ _ h => h) (Or.inl ⟨by rfl, ?_⟩) ?_ ?_
  rotate_left
  · intro w'
    go_simp
    with_reducible rfl
  rotate_left
  · simp only [Act.put, List.setIfInBounds_toArray, List.set_cons_zero, List.set_cons_succ, i64_w, i32_w]
    rfl
  refine pure_ (i := 10) (N := some 44) (v := ?_) (a' := ?_) #[true, true, true, true, true, false, true, true, true, false, true, false, false, false, false, false, false, false, false, false, false, false] rfl rfl (by kernel_rfl) (fun _ _ _ h => h) (Or.inl ⟨by rfl, ?_⟩) ?_ ?_
  rotate_left
  · intro w'
    go_simp
    with_reducible rfl
  rotate_left
  · simp only [Act.put, List.setIfInBounds_toArray, List.set_cons_zero, List.set_cons_succ, i64_w, i32_w]
    rfl
  refine pure_ (i := 11) (N := some 45) (v := ?_) (a' := ?_) #[true, true, true, true, true, false, true, true, true, false, true, true, false, false, false, false, false, false, false, false, false, false] rfl rfl (by kernel_rfl) (fun _ _ _ h => h) (Or.inl ⟨by rfl, ?_⟩) ?_ ?_
  rotate_left
  · intro w'
    go_simp
    with_reducible rfl
  rotate_left
  · simp only [Act.put, List.setIfInBounds_toArray, List.set_cons_zero, List.set_cons_succ, i64_w, i32_w]
    rfl
  refine take_ (i := 5) (N := some 39) (v := ?_) (a' := ?_) #[true, true, true, true, true, true, true, true, true, false, true, true, false, false, false, false, false, false, false, false, false, false] rfl rfl (by kernel_rfl) (fun _ _ _ h => h) (Or.inl ⟨by rfl, ?_⟩) hHeld ?_ ?_
  rotate_left
  · rintro w' ⟨s0, s1, s2⟩
    go_simp
    with_reducible rfl
  rotate_left
  · simp only [Act.put, List.setIfInBounds_toArray, List.set_cons_zero, List.set_cons_succ, i64_w, i32_w]
    rfl
  refine take_ (i := 9) (N := some 43) (v := ?_) (a' := ?_) #[true, true, true, true, true, true, true, true, true, true, true, true, false, false, false, false, false, false, false, false, false, false] rfl rfl (by kernel_rfl) (fun _ _ _ h => h) (Or.inl ⟨by rfl, ?_⟩) hHeld ?_ ?_
  rotate_left
  · rintro w' ⟨s0, s1, s2⟩
    go_simp
    with_reducible rfl
  rotate_left
  · simp only [Act.put, List.setIfInBounds_toArray, List.set_cons_zero, List.set_cons_succ, i64_w, i32_w]
    rfl
  refine pure_ (i := 12) (N := some 46) (v := ?_) (a' := ?_) #[true, true, true, true, true, true, true, true, true, true, true, true, true, false, false, false, false, false, false, false, false, false] rfl rfl (by kernel_rfl) (fun _ _ _ h => h) (Or.inl ⟨by rfl, ?_⟩) ?_ ?_
  rotate_left
  · intro w'
    go_simp
    with_reducible rfl
  rotate_left
  · simp only [Act.put, List.setIfInBounds_toArray, List.set_cons_zero, List.set_cons_succ, i64_w, i32_w]
    rfl
  refine take_ (i := 13) (N := some 47) (v := ?_) (a' := ?_) #[true, true, true, true, true, true, true, true, true, true, true, true, true, true, false, false, false, false, false, false, false, false] rfl rfl (by kernel_rfl) (fun _ _ _ h => h) (Or.inl ⟨by rfl, ?_⟩) hHeld ?_ ?_
  rotate_left
  · rintro w' ⟨s0, s1, s2⟩
    go_simp
    with_reducible rfl
  rotate_left
  · simp only [Act.put, List.setIfInBounds_toArray, List.set_cons_zero, List.set_cons_succ, i64_w, i32_w]
    rfl
  refine one_ (i := 14) (N := some 48) #[true, true, true, true, true, true, true, true, true, true, true, true, true, true, true, false, false, false, false, false, false, false] rfl rfl (by kernel_rfl) (by decide) (fun K hK => ?_)
  refine value_ (w1 := ?_) (v := ?_) (by rfl) rfl ?_ ?_
  rotate_left 2
  · go_simp
    constructor
    · rfl
    · rfl
  refine hK.out _ _ ⟨(blk_cell (HD1.out.below (below_alloc (Below.refl _ _) (.cells #[.string (strOfNums (nts ((c.line ++ [x]).take m)))] 9))).blk 1).trans rfl, (blk_cell (HD1.out.below (below_alloc (Below.refl _ _) (.cells #[.string (strOfNums (nts ((c.line ++ [x]).take m)))] 9))).blk 2).trans rfl, line_conv (HD1.out.below (below_alloc (Below.refl _ _) (.cells #[.string (strOfNums (nts ((c.line ++ [x]).take m)))] 9))).line m (by omega)⟩ (fun hHeld => ?_)
  clear hK K
  refine norm_ (a' := ?_) ?_ ?_
  rotate_left
  · show Act.put _ (some 48) _ = _
    simp only [Act.put, List.setIfInBounds_toArray, List.set_cons_zero, List.set_cons_succ, i64_w, i32_w]
    rfl
  refine last_ (i := 15) (N := some 49) #[true, true, true, true, true, true, true, true, true, true, true, true, true, true, true, true, false, false, false, false, false, false] rfl rfl (by kernel_rfl) (by decide) (fun K hK => ?_)
  rw [show ((w1.setCell ⟨g, 2, none⟩ (.slice (some ⟨g1, 0, none⟩) n1 cp1)).alloc (.cells #[.string (strOfNums (nts ((c.line ++ [x]).take m)))] 9)).drew = (w1.setCell ⟨g, 2, none⟩ (.slice (some ⟨g1, 0, none⟩) n1 cp1)).drew.alloc (.cells #[.string (strOfNums (nts ((c.line ++ [x]).take m)))] 9) from rfl]
  refine Kd.R_append_step Kd.string (w0 := w) n (by rfl) (.tmp 39) (.tmp 48) 57 9 (.string ⟨#[]⟩) 16 rfl Tryd.underlying57 strs_info rfl (by decide) (by omega) (.slice As c.lines.length cs) c.lines (strOfNums (nts ((c.line ++ [x]).take m))) [.string (strOfNums (nts ((c.line ++ [x]).take m)))] (fun _ => True) (fun _ => False) rfl ?aX ?aP (fun _ hk => hk.elim) ?aF ?aO ?aB ?aS ?aL ?_
  (case aX => first | rfl | (rw [World.size_drew, World.size_setCell]; rfl))
  (case aP => exact rfl)
  (case aB => exact FB.out.below.trans (bel_less (below_drew (Below.refl _ _)) (by have := blk_lt HA.out.blk; have := HA.out.ge; omega)))
  (case aF => exact (fun _ _ => trivial))
  (case aO => exact HD1.out.lines)
  (case aS => have := blk_lt HD1.out.blk; have := HD1.out.ge; omega)
  (case aL => have := HLL.out; omega)
  intro v2 w2 ho2 hb2 hg2 hat2
  obtain ⟨A2, cp2, rfl⟩ := Kd.R_slice ho2
  obtain ⟨n2, hn2⟩ : ∃ n2, n2 = (c.lines ++ [(strOfNums (nts ((c.line ++ [x]).take m)))]).length := ⟨_, rfl⟩
  rw [← hn2] at ho2 ⊢
  have HA2 := Lib.hid (HD1.out.addLines HBN.out ho2 hg2)
  have hk2 := blk_grown HD1.out.blk hg2 (Kd.R_ne HD1.out.lines HD1.out.blk (by decide))
  have FC := Lib.hid ((FD.out.grown hb2 hg2 HD1.out.typedLines (.inl rfl)).set (i := 1) (u := .slice A2 n2 cp2) hk2 HA.out.ge)
  have e1 : w2.cell? ⟨g, 1, none⟩ = some (.slice As c.lines.length cs) := (blk_cell hk2 1).trans rfl
  have e2 : w2.cell? ⟨g, 2, none⟩ = some (.slice (some ⟨g1, 0, none⟩) n1 cp1) := (blk_cell hk2 2).trans rfl
  have fe1 := blk_frozen hk2 1
  have fe2 := blk_frozen hk2 2
  clear ho2 hb2 hg2 hat2 hk2 hn2
  refine hK.out _ _ ?_
  clear hK K
  refine norm_ (a' := ?_) ?_ ?_
  rotate_left
  · show Act.put _ (some 49) _ = _
    simp only [Act.put, List.setIfInBounds_toArray, List.set_cons_zero, List.set_cons_succ, i64_w, i32_w]
    rfl
  refine pure_ (i := 16) (N := some 50) (v := ?_) (a' := ?_) #[true, true, true, true, true, true, true, true, true, true, true, true, true, true, true, true, true, false, false, false, false, false] rfl rfl (by kernel_rfl) (fun _ _ _ h => h) (Or.inl ⟨by rfl, ?_⟩) ?_ ?_
  rotate_left
  · intro w'
    go_simp
    with_reducible rfl
  rotate_left
  · simp only [Act.put, List.setIfInBounds_toArray, List.set_cons_zero, List.set_cons_succ, i64_w, i32_w]
    rfl
  refine pure_ (i := 17) (N := some 51) (v := ?_) (a' := ?_) #[true, true, true, true, true, true, true, true, true, true, true, true, true, true, true, true, true, true, false, false, false, false] rfl rfl (by kernel_rfl) (fun _ _ _ h => h) (Or.inl ⟨by rfl, ?_⟩) ?_ ?_
  rotate_left
  · intro w'
    go_simp
    with_reducible rfl
  rotate_left
  · simp only [Act.put, List.setIfInBounds_toArray, List.set_cons_zero, List.set_cons_succ, i64_w, i32_w]
    rfl
  refine last_ (i := 18) (N := none) #[true, true, true, true, true, true, true, true, true, true, true, true, true, true, true, true, true, true, true, false, false, false] rfl rfl (by kernel_rfl) (by decide) (fun K hK => ?_)
  refine skip_ (w1 := ?_) (by rfl) rfl ?_ ?_
  rotate_left
  · go_simp
    rfl
  refine hK.out _ _ ?_
  clear hK K
  refine pure_ (i := 19) (N := some 52) (v := ?_) (a' := ?_) #[true, true, true, true, true, true, true, true, true, true, true, true, true, true, true, true, true, true, true, true, false, false] rfl rfl (by kernel_rfl) (fun _ _ _ h => h) (Or.inl ⟨by rfl, ?_⟩) ?_ ?_
  rotate_left
  · intro w'
    go_simp
    with_reducible rfl
  rotate_left
  · simp only [Act.put, List.setIfInBounds_toArray, List.set_cons_zero, List.set_cons_succ, i64_w, i32_w]
    rfl
  refine pure_ (i := 20) (N := some 53) (v := ?_) (a' := ?_) #[true, true, true, true, true, true, true, true, true, true, true, true, true, true, true, true, true, true, true, true, true, false] rfl rfl (by kernel_rfl) (fun _ _ _ h => h) (Or.inl ⟨by rfl, ?_⟩) ?_ ?_
  rotate_left
  · intro w'
    go_simp
    with_reducible rfl
  rotate_left
  · simp only [Act.put, List.setIfInBounds_toArray, List.set_cons_zero, List.set_cons_succ, i64_w, i32_w]
    rfl
  refine last_ (i := 21) (N := none) #[true, true, true, true, true, true, true, true, true, true, true, true, true, true, true, true, true, true, true, true, true, true] rfl rfl (by kernel_rfl) (by decide) (fun K hK => ?_)
  refine skip_ (w1 := ?_) (by rfl) rfl ?_ ?_
  rotate_left
  · go_simp
    rfl
  refine hK.out _ _ ?_
  clear hK K
  refine done_ (by kernel_rfl) ?_
  go_wp2
  first | go_ret | go_end0 | ((try simp only [Exit.inBlock, Exit.then]); refine bodyPost_ret (results_none rfl _ _ _) rfl ?_)
  exact ⟨rfl, ⟨_, _, _, _, by rw [HR.out]; exact HA2.out.nilLine HBN.out, .inl (by rw [HR.out]; exact HBN.out)⟩, FC.out.set HA2.out.blk HA2.out.ge⟩
set_option maxHeartbeats 4000000 in
set_option maxRecDepth 100000 in
theorem byte_e1 (k n g n1 : Nat) (vf : Value) (As A : Option Addr) (cs cp : Nat) (c : CutS) (x : UInt8) (s1 : Int) (r : CutS) (w : World) (h : CutAt w n g (.slice As c.lines.length cs) (.slice A c.line.length cp) vf (.pointer none) c) (hbn : c.body = none) (h1000 : c.line.length ≤ 1000) (hn1 : n1 = c.line.length + 1) (hs1 : s1 = c.size + 1) (hs0 : 0 ≤ c.size) (hs2 : c.size ≤ 1000) (hsm : s1 ≤ 1000) (hx10 : x.toNat = 10) (m : Nat) (y : UInt8) (hx : (c.line ++ [x])[m]? = some y) (hm : n1 = m + 2) (hy : y.toNat = 13) (h2 : n1 = 2) (hl0 : c.lines.length ≠ 0) (p1 p2 : ByteArray) (p3 : List S62) (p4 : ByteArray) (p5 : Bool) (p6 p7 : Int) (hf : head_Parse.f k c.lines = some (p1, p2, p3, p4, p5, p6, p7)) (h7 : p7 ≠ 0) (hr : r = failC (hdC { c with size := s1, line := [] } (p1, p2, p3, p4, p5, p6, p7)) p7) :
    Calls Tryd.prog 25 #[.pointer (some ⟨g, 0, none⟩), .int .u8 (x.toNat : Int)] w fun e w' => e = .returned (.tuple #[]) ∧ ByteOK w.heap.size w' n g r ∧ CutFrame n w w' := by
  have hbs : n ≤ w.heap.size := Nat.le_trans h.ge (Nat.le_of_lt (blk_lt h.blk))
  have c3 : w.cell? ⟨g, 3, none⟩ = some (.int .i64 c.size) := (blk_cell h.blk 3).trans rfl
  have f3 := blk_frozen h.blk 3
  have c2 : w.cell? ⟨g, 2, none⟩ = some (.slice A c.line.length cp) := (blk_cell h.blk 2).trans rfl
  have q2 : IntKind.i64.wrap (c.size + 1) = s1 := by rw [IntKind.wrap_i64]; omega
  have q3 : wrap64 (c.size + 1) = s1 := by unfold wrap64; omega
  have H := Lib.hid h
  have H1 := Lib.hid (show CutAt (w.setCell ⟨g, 3, none⟩ (.int .i64 s1)) n g (.slice As c.lines.length cs) (.slice A c.line.length cp) vf (.pointer none) { c with size := s1 } from h.setSize s1)
  have FA := Lib.hid (show CutFrame n w (w.setCell ⟨g, 3, none⟩ (.int .i64 s1)) from (CutFrame.refl n w).set h.blk h.ge)
  have HS := Lib.hid hbs
  have HBN := Lib.hid hbn
  have HN := Lib.hid h1000
  have HN1 := Lib.hid hn1
  have t2 : decide (1000 < s1) = false := decide_eq_false (by omega)
  have hle : n1 ≤ 1001 := by omega
  have hm3 : m ≤ 999 := by omega
  have z1 : decide (1 < n1) = true := decide_eq_true (by omega)
  have z2 : decide (1 < (n1 : Int)) = true := decide_eq_true (by omega)
  have z3 : decide (n1 < 2) = false := decide_eq_false (by omega)
  have z4 : decide ((n1 : Int) < 2) = false := decide_eq_false (by omega)
  have hq : (n1 : Int) - 2 = (m : Int) := by omega
  have hq2 : IntKind.i64.wrap ((n1 : Int) - 2) = (m : Int) := by rw [IntKind.wrap_i64]; omega
  have hq3 : wrap64 ((n1 : Int) - 2) = (m : Int) := by unfold wrap64; omega
  have hm1 : m < n1 := by omega
  have HX := Lib.hid hx
  have HM := Lib.hid hm
  have u1 : ((x.toNat : Int) != 10) = false := bne_eq_false_iff_eq.2 (by omega)
  have y1 : ((y.toNat : Int) == 13) = true := beq_iff_eq.2 (by omega)
  have y2 : ((y.toNat : Int) != 13) = false := bne_eq_false_iff_eq.2 (by omega)
  have w1e : ((n1 : Int) == 2) = true := beq_iff_eq.2 (by omega)
  have w2e : (n1 == 2) = true := beq_iff_eq.2 (by omega)
  have w3e : ((c.lines.length : Int) == 0) = false := beq_eq_false_iff_ne.2 (by omega)
  have w4e : (c.lines.length == 0) = false := beq_eq_false_iff_ne.2 (by omega)
  have HF := Lib.hid hf
  have HR := Lib.hid hr
  have t7 : (p7 != 0) = true := bne_iff_ne.2 h7
  clear hsm hx10 hx hm hy hr h2 hl0 hf h7 h hbs hbn h1000 hn1 hs1 hs0 hs2
  go_enter Tryd.func25, Tryd.ntmps25
  go_wp2_with (first | ((with_reducible refine gate_builtin (b := .append) (xs := #[.tmp 23, .tmp 25]) rfl ?_); at_builtin; refine print_append_num (w0 := w) n rfl (.tmp 23) (.tmp 25) 46 5 .u8 1 rfl Tryd.underlying46 body_info (by decide) (.slice A c.line.length cp) (nts c.line) (x.toNat : Int) rfl ?aX ?aO ?aB ?aS ?aL ?_; (case aX => rw [World.size_setCell]; rfl); (case aO => rw [nts_len]; exact H1.out.line); (case aB => exact FA.out.below); (case aS => have := blk_lt H1.out.blk; have := H1.out.ge; omega); (case aL => rw [nts_len]; have := HN.out; omega); intro v1 w1 ho hb hg hat; obtain ⟨g1, cp1, rfl, hgb, hgl⟩ := line_form ho HN1.out; have HA := Lib.hid (H1.out.addLine HBN.out (line_own (n1 := n1) ho) hg); have hk := blk_grown H1.out.blk hg (own_ne H1.out.line H1.out.blk (by decide)); have FB := Lib.hid ((FA.out.grown hb hg H1.out.typedLine (.inr rfl)).set (i := 2) (u := .slice (some ⟨g1, 0, none⟩) n1 cp1) hk H1.out.ge); have d2 : w1.cell? ⟨g, 2, none⟩ = some (.slice A c.line.length cp) := (blk_cell hk 2).trans rfl; have d1 : w1.cell? ⟨g, 1, none⟩ = some (.slice As c.lines.length cs) := (blk_cell hk 1).trans rfl; have d3 : w1.cell? ⟨g, 3, none⟩ = some (.int .i64 s1) := (blk_cell hk 3).trans rfl; have fd2 := blk_frozen hk 2; have fd1 := blk_frozen hk 1; have fd3 := blk_frozen hk 3; have HC := Lib.hid (cut_cells HA.out); have dx := HC.out m y HX.out; clear ho hb hg hat hk hgb hgl c2 c3 f3) | (go_at_call 18; have P1 := HA.out.nilLine HBN.out; have FB1 := FB.out.set (i := 2) (u := .slice none 0 0) HA.out.blk HA.out.ge; refine (head_Parse.calls k As cs c.lines p1 p2 p3 p4 p5 p6 p7 _ (Kd.R_reads' P1.lines).2.2 (Kd.R_reads' P1.lines).2.1 HF.out).mono ?_; rintro e w2 ⟨v2, rfl, ho2, hb2⟩; obtain ⟨A2, cp2, rfl⟩ := Kd.R_slice ho2; have HP2 := Lib.hid (P1.below hb2); have hle1 := blk_lt P1.blk; have FB2 := Lib.hid (FB1.trans (CutFrame.ofBelow hb2 (by have := P1.ge; omega))); have HR2 := Lib.hid (Kd.R_lower ho2 (show n ≤ _ by have := P1.ge; omega)); have HNW := Lib.hid (show ∀ q, (Value.slice A2 p3.length cp2).ownBlock = some q → w.heap.size ≤ q from fun q hq => Nat.le_trans FB1.below.size (Kd.R_base ho2 q hq)); have e4 : w2.cell? ⟨g, 4, none⟩ = some (.string c.hm) := (blk_cell HP2.out.blk 4).trans rfl; have e5 : w2.cell? ⟨g, 5, none⟩ = some (.string c.ht) := (blk_cell HP2.out.blk 5).trans rfl; have e6 : w2.cell? ⟨g, 6, none⟩ = some (vf) := (blk_cell HP2.out.blk 6).trans rfl; have e7 : w2.cell? ⟨g, 7, none⟩ = some (.string c.hb) := (blk_cell HP2.out.blk 7).trans rfl; have e8 : w2.cell? ⟨g, 8, none⟩ = some (.bool c.hc) := (blk_cell HP2.out.blk 8).trans rfl; have e9 : w2.cell? ⟨g, 9, none⟩ = some (.int .i64 c.hl) := (blk_cell HP2.out.blk 9).trans rfl; have e10 : w2.cell? ⟨g, 10, none⟩ = some (.int .i64 c.hs) := (blk_cell HP2.out.blk 10).trans rfl; have e11 : w2.cell? ⟨g, 11, none⟩ = some (.pointer none) := (blk_cell HP2.out.blk 11).trans rfl; have fe4 := blk_frozen HP2.out.blk 4; have fe5 := blk_frozen HP2.out.blk 5; have fe6 := blk_frozen HP2.out.blk 6; have fe7 := blk_frozen HP2.out.blk 7; have fe8 := blk_frozen HP2.out.blk 8; have fe9 := blk_frozen HP2.out.blk 9; have fe10 := blk_frozen HP2.out.blk 10; have fe11 := blk_frozen HP2.out.blk 11; have HS3 := Lib.hid (HP2.out.setHead (vf' := .slice A2 p3.length cp2) HBN.out (p1, p2, p3, p4, p5, p6, p7)); have k0 := HP2.out.blk; have r0 := HR2.out; have x0 := FB2.out; have k1 := blk_set k0 4 (.string p1); have r1 := Kd.R_set r0 k0 (by intro q hq; revert q; decide) 4 (.string p1); have x1 := x0.set (i := 4) (u := .string p1) k0 HP2.out.ge; have k2 := blk_set k1 5 (.string p2); have r2 := Kd.R_set r1 k1 (by intro q hq; revert q; decide) 5 (.string p2); have x2 := x1.set (i := 5) (u := .string p2) k1 HP2.out.ge; have k3 := blk_set k2 6 (.slice A2 p3.length cp2); have r3 := Kd.R_set r2 k2 (by intro q hq; revert q; decide) 6 (.slice A2 p3.length cp2); have x3 := x2.set (i := 6) (u := .slice A2 p3.length cp2) k2 HP2.out.ge; have k4 := blk_set k3 7 (.string p4); have r4 := Kd.R_set r3 k3 (by intro q hq; revert q; decide) 7 (.string p4); have x4 := x3.set (i := 7) (u := .string p4) k3 HP2.out.ge; have k5 := blk_set k4 8 (.bool p5); have r5 := Kd.R_set r4 k4 (by intro q hq; revert q; decide) 8 (.bool p5); have x5 := x4.set (i := 8) (u := .bool p5) k4 HP2.out.ge; have k6 := blk_set k5 9 (.int .i64 p6); have r6 := Kd.R_set r5 k5 (by intro q hq; revert q; decide) 9 (.int .i64 p6); have x6 := x5.set (i := 9) (u := .int .i64 p6) k5 HP2.out.ge; have k7 := blk_set k6 10 (.int .i64 p7); have r7 := Kd.R_set r6 k6 (by intro q hq; revert q; decide) 10 (.int .i64 p7); have x7 := x6.set (i := 10) (u := .int .i64 p7) k6 HP2.out.ge; have HR3 := Lib.hid r7; have FB3 := Lib.hid x7; have HK3 := Lib.hid k7; clear k0 r0 x0 k1 r1 x1 k2 r2 x2 k3 r3 x3 k4 r4 x4 k5 r5 x5 k6 r6 x6 k7 r7 x7 P1 FB1 ho2 hb2 hle1 d1 d2 d3 fd1 fd2 fd3 dx) | (go_at_call 34; refine (cut_fail n g (.slice As c.lines.length cs) (.slice none 0 0) (.slice A2 p3.length cp2) (.pointer none) (hdC { c with size := s1, line := [] } (p1, p2, p3, p4, p5, p6, p7)) p7 _ HS3.out).mono ?_; rintro e w3 ⟨rfl, hb1, hb2⟩; have HC2 := Lib.hid hb1; have HD := Lib.hid hb2; clear hb1 hb2))
  first | go_ret | go_end0 | ((try simp only [Exit.inBlock, Exit.then]); refine bodyPost_ret (results_none rfl _ _ _) rfl ?_)
  exact ⟨rfl, ⟨_, _, _, _, by rw [HR.out]; exact HC2.out, .inl (by rw [HR.out]; exact HBN.out)⟩, FB3.out.trans HD.out⟩
set_option maxHeartbeats 4000000 in
set_option maxRecDepth 100000 in
theorem byte_e2 (k n g n1 : Nat) (vf : Value) (As A : Option Addr) (cs cp : Nat) (c : CutS) (x : UInt8) (s1 : Int) (r : CutS) (w : World) (h : CutAt w n g (.slice As c.lines.length cs) (.slice A c.line.length cp) vf (.pointer none) c) (hbn : c.body = none) (h1000 : c.line.length ≤ 1000) (hn1 : n1 = c.line.length + 1) (hs1 : s1 = c.size + 1) (hs0 : 0 ≤ c.size) (hs2 : c.size ≤ 1000) (hsm : s1 ≤ 1000) (hx10 : x.toNat = 10) (m : Nat) (y : UInt8) (hx : (c.line ++ [x])[m]? = some y) (hm : n1 = m + 2) (hy : y.toNat = 13) (h2 : n1 = 2) (hl0 : c.lines.length ≠ 0) (p1 p2 : ByteArray) (p3 : List S62) (p4 : ByteArray) (p5 : Bool) (p6 p7 : Int) (hf : head_Parse.f k c.lines = some (p1, p2, p3, p4, p5, p6, p7)) (h7 : p7 = 0) (hr : r = { (hdC { c with size := s1, line := [] } (p1, p2, p3, p4, p5, p6, p7)) with body := some (newB p6) }) :
    Calls Tryd.prog 25 #[.pointer (some ⟨g, 0, none⟩), .int .u8 (x.toNat : Int)] w fun e w' => e = .returned (.tuple #[]) ∧ ByteOK w.heap.size w' n g r ∧ CutFrame n w w' := by
  have hbs : n ≤ w.heap.size := Nat.le_trans h.ge (Nat.le_of_lt (blk_lt h.blk))
  have c3 : w.cell? ⟨g, 3, none⟩ = some (.int .i64 c.size) := (blk_cell h.blk 3).trans rfl
  have f3 := blk_frozen h.blk 3
  have c2 : w.cell? ⟨g, 2, none⟩ = some (.slice A c.line.length cp) := (blk_cell h.blk 2).trans rfl
  have q2 : IntKind.i64.wrap (c.size + 1) = s1 := by rw [IntKind.wrap_i64]; omega
  have q3 : wrap64 (c.size + 1) = s1 := by unfold wrap64; omega
  have H := Lib.hid h
  have H1 := Lib.hid (show CutAt (w.setCell ⟨g, 3, none⟩ (.int .i64 s1)) n g (.slice As c.lines.length cs) (.slice A c.line.length cp) vf (.pointer none) { c with size := s1 } from h.setSize s1)
  have FA := Lib.hid (show CutFrame n w (w.setCell ⟨g, 3, none⟩ (.int .i64 s1)) from (CutFrame.refl n w).set h.blk h.ge)
  have HS := Lib.hid hbs
  have HBN := Lib.hid hbn
  have HN := Lib.hid h1000
  have HN1 := Lib.hid hn1
  have t2 : decide (1000 < s1) = false := decide_eq_false (by omega)
  have hle : n1 ≤ 1001 := by omega
  have hm3 : m ≤ 999 := by omega
  have z1 : decide (1 < n1) = true := decide_eq_true (by omega)
  have z2 : decide (1 < (n1 : Int)) = true := decide_eq_true (by omega)
  have z3 : decide (n1 < 2) = false := decide_eq_false (by omega)
  have z4 : decide ((n1 : Int) < 2) = false := decide_eq_false (by omega)
  have hq : (n1 : Int) - 2 = (m : Int) := by omega
  have hq2 : IntKind.i64.wrap ((n1 : Int) - 2) = (m : Int) := by rw [IntKind.wrap_i64]; omega
  have hq3 : wrap64 ((n1 : Int) - 2) = (m : Int) := by unfold wrap64; omega
  have hm1 : m < n1 := by omega
  have HX := Lib.hid hx
  have HM := Lib.hid hm
  have u1 : ((x.toNat : Int) != 10) = false := bne_eq_false_iff_eq.2 (by omega)
  have y1 : ((y.toNat : Int) == 13) = true := beq_iff_eq.2 (by omega)
  have y2 : ((y.toNat : Int) != 13) = false := bne_eq_false_iff_eq.2 (by omega)
  have w1e : ((n1 : Int) == 2) = true := beq_iff_eq.2 (by omega)
  have w2e : (n1 == 2) = true := beq_iff_eq.2 (by omega)
  have w3e : ((c.lines.length : Int) == 0) = false := beq_eq_false_iff_ne.2 (by omega)
  have w4e : (c.lines.length == 0) = false := beq_eq_false_iff_ne.2 (by omega)
  have HF := Lib.hid hf
  have HR := Lib.hid hr
  have t7 : (p7 != 0) = false := bne_eq_false_iff_eq.2 h7
  clear hsm hx10 hx hm hy hr h2 hl0 hf h7 h hbs hbn h1000 hn1 hs1 hs0 hs2
  go_enter Tryd.func25, Tryd.ntmps25
  go_wp2_with (first | ((with_reducible refine gate_builtin (b := .append) (xs := #[.tmp 23, .tmp 25]) rfl ?_); at_builtin; refine print_append_num (w0 := w) n rfl (.tmp 23) (.tmp 25) 46 5 .u8 1 rfl Tryd.underlying46 body_info (by decide) (.slice A c.line.length cp) (nts c.line) (x.toNat : Int) rfl ?aX ?aO ?aB ?aS ?aL ?_; (case aX => rw [World.size_setCell]; rfl); (case aO => rw [nts_len]; exact H1.out.line); (case aB => exact FA.out.below); (case aS => have := blk_lt H1.out.blk; have := H1.out.ge; omega); (case aL => rw [nts_len]; have := HN.out; omega); intro v1 w1 ho hb hg hat; obtain ⟨g1, cp1, rfl, hgb, hgl⟩ := line_form ho HN1.out; have HA := Lib.hid (H1.out.addLine HBN.out (line_own (n1 := n1) ho) hg); have hk := blk_grown H1.out.blk hg (own_ne H1.out.line H1.out.blk (by decide)); have FB := Lib.hid ((FA.out.grown hb hg H1.out.typedLine (.inr rfl)).set (i := 2) (u := .slice (some ⟨g1, 0, none⟩) n1 cp1) hk H1.out.ge); have d2 : w1.cell? ⟨g, 2, none⟩ = some (.slice A c.line.length cp) := (blk_cell hk 2).trans rfl; have d1 : w1.cell? ⟨g, 1, none⟩ = some (.slice As c.lines.length cs) := (blk_cell hk 1).trans rfl; have d3 : w1.cell? ⟨g, 3, none⟩ = some (.int .i64 s1) := (blk_cell hk 3).trans rfl; have fd2 := blk_frozen hk 2; have fd1 := blk_frozen hk 1; have fd3 := blk_frozen hk 3; have HC := Lib.hid (cut_cells HA.out); have dx := HC.out m y HX.out; clear ho hb hg hat hk hgb hgl c2 c3 f3) | (go_at_call 18; have P1 := HA.out.nilLine HBN.out; have FB1 := FB.out.set (i := 2) (u := .slice none 0 0) HA.out.blk HA.out.ge; refine (head_Parse.calls k As cs c.lines p1 p2 p3 p4 p5 p6 p7 _ (Kd.R_reads' P1.lines).2.2 (Kd.R_reads' P1.lines).2.1 HF.out).mono ?_; rintro e w2 ⟨v2, rfl, ho2, hb2⟩; obtain ⟨A2, cp2, rfl⟩ := Kd.R_slice ho2; have HP2 := Lib.hid (P1.below hb2); have hle1 := blk_lt P1.blk; have FB2 := Lib.hid (FB1.trans (CutFrame.ofBelow hb2 (by have := P1.ge; omega))); have HR2 := Lib.hid (Kd.R_lower ho2 (show n ≤ _ by have := P1.ge; omega)); have HNW := Lib.hid (show ∀ q, (Value.slice A2 p3.length cp2).ownBlock = some q → w.heap.size ≤ q from fun q hq => Nat.le_trans FB1.below.size (Kd.R_base ho2 q hq)); have e4 : w2.cell? ⟨g, 4, none⟩ = some (.string c.hm) := (blk_cell HP2.out.blk 4).trans rfl; have e5 : w2.cell? ⟨g, 5, none⟩ = some (.string c.ht) := (blk_cell HP2.out.blk 5).trans rfl; have e6 : w2.cell? ⟨g, 6, none⟩ = some (vf) := (blk_cell HP2.out.blk 6).trans rfl; have e7 : w2.cell? ⟨g, 7, none⟩ = some (.string c.hb) := (blk_cell HP2.out.blk 7).trans rfl; have e8 : w2.cell? ⟨g, 8, none⟩ = some (.bool c.hc) := (blk_cell HP2.out.blk 8).trans rfl; have e9 : w2.cell? ⟨g, 9, none⟩ = some (.int .i64 c.hl) := (blk_cell HP2.out.blk 9).trans rfl; have e10 : w2.cell? ⟨g, 10, none⟩ = some (.int .i64 c.hs) := (blk_cell HP2.out.blk 10).trans rfl; have e11 : w2.cell? ⟨g, 11, none⟩ = some (.pointer none) := (blk_cell HP2.out.blk 11).trans rfl; have fe4 := blk_frozen HP2.out.blk 4; have fe5 := blk_frozen HP2.out.blk 5; have fe6 := blk_frozen HP2.out.blk 6; have fe7 := blk_frozen HP2.out.blk 7; have fe8 := blk_frozen HP2.out.blk 8; have fe9 := blk_frozen HP2.out.blk 9; have fe10 := blk_frozen HP2.out.blk 10; have fe11 := blk_frozen HP2.out.blk 11; have HS3 := Lib.hid (HP2.out.setHead (vf' := .slice A2 p3.length cp2) HBN.out (p1, p2, p3, p4, p5, p6, p7)); have k0 := HP2.out.blk; have r0 := HR2.out; have x0 := FB2.out; have k1 := blk_set k0 4 (.string p1); have r1 := Kd.R_set r0 k0 (by intro q hq; revert q; decide) 4 (.string p1); have x1 := x0.set (i := 4) (u := .string p1) k0 HP2.out.ge; have k2 := blk_set k1 5 (.string p2); have r2 := Kd.R_set r1 k1 (by intro q hq; revert q; decide) 5 (.string p2); have x2 := x1.set (i := 5) (u := .string p2) k1 HP2.out.ge; have k3 := blk_set k2 6 (.slice A2 p3.length cp2); have r3 := Kd.R_set r2 k2 (by intro q hq; revert q; decide) 6 (.slice A2 p3.length cp2); have x3 := x2.set (i := 6) (u := .slice A2 p3.length cp2) k2 HP2.out.ge; have k4 := blk_set k3 7 (.string p4); have r4 := Kd.R_set r3 k3 (by intro q hq; revert q; decide) 7 (.string p4); have x4 := x3.set (i := 7) (u := .string p4) k3 HP2.out.ge; have k5 := blk_set k4 8 (.bool p5); have r5 := Kd.R_set r4 k4 (by intro q hq; revert q; decide) 8 (.bool p5); have x5 := x4.set (i := 8) (u := .bool p5) k4 HP2.out.ge; have k6 := blk_set k5 9 (.int .i64 p6); have r6 := Kd.R_set r5 k5 (by intro q hq; revert q; decide) 9 (.int .i64 p6); have x6 := x5.set (i := 9) (u := .int .i64 p6) k5 HP2.out.ge; have k7 := blk_set k6 10 (.int .i64 p7); have r7 := Kd.R_set r6 k6 (by intro q hq; revert q; decide) 10 (.int .i64 p7); have x7 := x6.set (i := 10) (u := .int .i64 p7) k6 HP2.out.ge; have HR3 := Lib.hid r7; have FB3 := Lib.hid x7; have HK3 := Lib.hid k7; clear k0 r0 x0 k1 r1 x1 k2 r2 x2 k3 r3 x3 k4 r4 x4 k5 r5 x5 k6 r6 x6 k7 r7 x7 P1 FB1 ho2 hb2 hle1 d1 d2 d3 fd1 fd2 fd3 dx) | (go_at_call 19; refine (body_New.calls p6 (newB p6) _ rfl).mono ?_; rintro e w4 ⟨V4, rfl, hO4, hb4⟩; obtain ⟨gB, ulB, udB, rfl, hB4⟩ := hO4; have hlt3 := blk_lt HS3.out.blk; have HP4 := Lib.hid (HS3.out.below hb4); have HO4 := Lib.hid (show BodyOwn w4 (bas n) (.pointer (some ⟨gB, 0, none⟩)) (newB p6) from BodyOwn.less ⟨gB, ulB, udB, rfl, hB4⟩ (by have := HS3.out.ge; omega)); have HR4 := Lib.hid (Kd.R_below HR3.out hb4); have FB4 := Lib.hid (FB3.out.trans (CutFrame.ofBelow hb4 (by have := HS3.out.ge; omega))); have u11 : w4.cell? ⟨g, 11, none⟩ = some (.pointer none) := (blk_cell HP4.out.blk 11).trans rfl; have fu11 := blk_frozen HP4.out.blk 11; clear hb4 hB4 hlt3 e4 fe4 e5 fe5 e6 fe6 e7 fe7 e8 fe8 e9 fe9 e10 fe10 e11 fe11))
  first | go_ret | go_end0 | ((try simp only [Exit.inBlock, Exit.then]); refine bodyPost_ret (results_none rfl _ _ _) rfl ?_)
  exact ⟨rfl, ⟨_, _, _, _, by rw [HR.out]; exact HP4.out.setBody rfl HO4.out HR4.out, .inr HNW.out⟩, FB4.out.set HP4.out.blk HP4.out.ge⟩
def byteF (k : Nat) (c : CutS) (x : UInt8) : Option CutS :=
  if c.size + 1 > 1000 then some (failC { c with size := c.size + 1 } 431)
  else if x.toNat ≠ 10 then some (if crAt (c.line ++ [x]) = true then failC { c with size := c.size + 1, line := c.line ++ [x] } 400 else { c with size := c.size + 1, line := c.line ++ [x] })
  else if crAt (c.line ++ [x]) = false then some (failC { c with size := c.size + 1, line := c.line ++ [x] } 400)
  else if c.line.length = 1 then
    (if c.lines.length = 0 then some { c with size := 0, line := [] }
    else (head_Parse.f k c.lines).bind fun p => some (if p.2.2.2.2.2.2 = 0 then { hdC { c with size := c.size + 1, line := [] } p with body := some (newB p.2.2.2.2.2.1) } else failC (hdC { c with size := c.size + 1, line := [] } p) p.2.2.2.2.2.2))
  else some { c with size := c.size + 1, lines := c.lines ++ [strOfNums (nts ((c.line ++ [x]).take (c.line.length - 1)))], line := [] }
theorem byteF_mono (c : CutS) (x : UInt8) (k : Nat) : LeO (byteF k c x) (byteF (k + 1) c x) := by
  unfold byteF
  exact LeO.ite (LeO.refl _) (LeO.ite (LeO.refl _) (LeO.ite (LeO.refl _) (LeO.ite (LeO.ite (LeO.refl _) (LeO.bind (head_Parse.mono _ _) (fun _ => LeO.refl _))) (LeO.refl _))))
def FitC (c : CutS) : Prop := 0 ≤ c.size ∧ c.size ≤ 1000 ∧ c.line.length ≤ 1000 ∧ c.lines.length ≤ 1000
theorem crAt_one (l : List UInt8) (x : UInt8) (h : l.length = 0) : crAt (l ++ [x]) = false := by
  unfold crAt
  exact decide_eq_false (fun hh => by have := hh.1; simp at this; omega)
theorem crAt_two (l : List UInt8) (x y : UInt8) (m : Nat) (hm : l.length + 1 = m + 2) (hx : (l ++ [x])[m]? = some y) : crAt (l ++ [x]) = decide (y.toNat = 13) := by
  unfold crAt
  have hl : (l ++ [x]).length = m + 2 := by simp; omega
  rw [hl, show m + 2 - 2 = m by omega, hx]
  by_cases ex : y.toNat = 13
  · rw [decide_eq_true ex]
    exact decide_eq_true ⟨by omega, by rw [show y = 13 from UInt8.toNat_inj.1 (by rw [ex]; rfl)]⟩
  · rw [decide_eq_false ex]
    exact decide_eq_false (fun hh => ex (by have := Option.some.inj hh.2; rw [this]; rfl))
theorem cut_byte (k n g : Nat) (vs vl vf vb : Value) (c : CutS) (x : UInt8) (r : CutS) (w : World) (h : CutAt w n g vs vl vf vb c) (hbn : c.body = none) (hfit : FitC c) (hf : byteF k c x = some r) :
    Calls Tryd.prog 25 #[.pointer (some ⟨g, 0, none⟩), .int .u8 (x.toNat : Int)] w fun e w' => e = .returned (.tuple #[]) ∧ ByteOK w.heap.size w' n g r ∧ CutFrame n w w' := by
  have hvb : vb = .pointer none := by
    rcases h.body with ⟨_, e⟩ | ⟨b, e, _⟩
    · exact e
    · rw [hbn] at e; cases e
  subst hvb
  obtain ⟨As, cs, rfl⟩ := Kd.R_slice h.lines
  obtain ⟨A, cp, rfl⟩ := own_slice h.line
  obtain ⟨hz0, hz1, hl1, hl2⟩ := hfit
  unfold byteF at hf
  by_cases e1 : c.size + 1 > 1000
  · rw [if_pos e1] at hf
    exact byte_big k n g _ vf As A cs cp c x _ r w h hbn hl1 rfl rfl hz0 hz1 e1 (Option.some.inj hf).symm
  rw [if_neg e1] at hf
  have e1' : c.size + 1 ≤ 1000 := by omega
  rcases Nat.eq_zero_or_pos c.line.length with hz | hp
  · rw [crAt_one c.line x hz] at hf
    by_cases e2 : x.toNat ≠ 10
    · rw [if_pos e2, if_neg (by decide)] at hf
      exact byte_bone k n g _ vf As A cs cp c x _ r w h hbn hl1 rfl rfl hz0 hz1 e1' e2 (by omega) (Option.some.inj hf).symm
    · rw [if_neg e2, if_pos rfl] at hf
      exact byte_cone k n g _ vf As A cs cp c x _ r w h hbn hl1 rfl rfl hz0 hz1 e1' (by omega) (by omega) (Option.some.inj hf).symm
  · obtain ⟨m, hm⟩ : ∃ m, c.line.length = m + 1 := ⟨c.line.length - 1, by omega⟩
    have hml : m < (c.line ++ [x]).length := by simp; omega
    obtain ⟨y, hx⟩ : ∃ y, (c.line ++ [x])[m]? = some y := ⟨_, List.getElem?_eq_getElem hml⟩
    have hm2 : c.line.length + 1 = m + 2 := by omega
    rw [crAt_two c.line x y m hm2 hx] at hf
    by_cases e2 : x.toNat ≠ 10
    · rw [if_pos e2] at hf
      by_cases e3 : y.toNat = 13
      · rw [decide_eq_true e3, if_pos rfl] at hf
        exact byte_a k n g _ vf As A cs cp c x _ r w h hbn hl1 rfl rfl hz0 hz1 e1' e2 m y hx hm2 e3 (Option.some.inj hf).symm
      · rw [decide_eq_false e3, if_neg (by decide)] at hf
        exact byte_btwo k n g _ vf As A cs cp c x _ r w h hbn hl1 rfl rfl hz0 hz1 e1' e2 m y hx hm2 e3 (Option.some.inj hf).symm
    · rw [if_neg e2] at hf
      have e2' : x.toNat = 10 := by omega
      by_cases e3 : y.toNat = 13
      · rw [decide_eq_true e3, if_neg (by decide)] at hf
        by_cases e4 : c.line.length = 1
        · rw [if_pos e4] at hf
          by_cases e5 : c.lines.length = 0
          · rw [if_pos e5] at hf
            exact byte_d k n g _ vf As A cs cp c x _ r w h hbn hl1 rfl rfl hz0 hz1 e1' e2' m y hx hm2 e3 (by omega) e5 (Option.some.inj hf).symm
          · rw [if_neg e5] at hf
            obtain ⟨⟨p1, p2, p3, p4, p5, p6, p7⟩, hP, hf2⟩ := Option.bind_eq_some_iff.1 hf
            by_cases e7 : p7 = 0
            · have hr := Option.some.inj hf2
              simp only at hr
              rw [if_pos e7] at hr
              exact byte_e2 k n g _ vf As A cs cp c x _ r w h hbn hl1 rfl rfl hz0 hz1 e1' e2' m y hx hm2 e3 (by omega) e5 p1 p2 p3 p4 p5 p6 p7 hP e7 hr.symm
            · have hr := Option.some.inj hf2
              simp only at hr
              rw [if_neg e7] at hr
              exact byte_e1 k n g _ vf As A cs cp c x _ r w h hbn hl1 rfl rfl hz0 hz1 e1' e2' m y hx hm2 e3 (by omega) e5 p1 p2 p3 p4 p5 p6 p7 hP e7 hr.symm
        · rw [if_neg e4, show c.line.length - 1 = m by omega] at hf
          exact byte_f k n g _ vf As A cs cp c x _ r w h hbn hl1 rfl rfl hz0 hz1 e1' e2' m y hx hm2 e3 (by omega) hl2 (Option.some.inj hf).symm
      · rw [decide_eq_false e3, if_pos rfl] at hf
        exact byte_ctwo k n g _ vf As A cs cp c x _ r w h hbn hl1 rfl rfl hz0 hz1 e1' e2' m y hx hm2 e3 (Option.some.inj hf).symm
end Go.Proofs.YtldaingkcnmaoaaDoor.X
namespace Go.Proofs.YtldaingkcnmaoaaDoor.X
open Go.RowKit Go.Proofs.YtldaingkcnmaoaaDoorW.PrintWords Go.Proofs.YtldaingkcnmaoaaDoorW.PrintLast Go.Proofs.YtldaingkcnmaoaaDoorW.PrintMore
attribute [local go_sem] max2_int min2_int max_two min_two max_three min_three max_four min_four
theorem wp_scope_back {P : Program} {R : Code} {Q : Exit → Act → World → Prop} {a : Act} {w : World} {l : Nat} (J : Act → World → Prop) (μ : Act → World → Nat) (h0 : J a w) (pass : ∀ a w, J a w → R.wp P (Exit.jump l (fun a' w' => J a' w' ∧ μ a' w' < μ a w) Q) a w) :
    (Code.scope ((Code.label l).seq R)).wp P Q a w := by
  refine wp_scope_jumps l J μ (rest := Code.seq .skip R) (by simp [findLabel]) ?_ (fun a w hJ => wp_seq (wp_skip (pass a w hJ)))
  refine wp_seq (wp_label (wp_mono (pass a w h0) (fun e a w hq => ?_)))
  cases e with
  | goto l' => exact ⟨hq.1, hq.2.1⟩
  | normal => exact hq
  | exit id => exact hq
  | ret => exact hq
  | panic ch => exact hq
  | outgrown => exact hq
instance (c : CutS) : Decidable (FitC c) := by unfold FitC; infer_instance
def hdB (s : ByteArray) : UInt8 := UInt8.ofNat (bt s 0).toNat
def tlB (s : ByteArray) : ByteArray := s.extract 1 s.size
theorem hdB_eq (s : ByteArray) : bt s 0 = ((hdB s).toNat : Int) := by
  have := bt_range s 0
  unfold hdB
  simp only [UInt8.toNat_ofNat']
  omega
theorem tlB_size (s : ByteArray) : (tlB s).size = s.size - 1 := by simp [tlB]
def reqC (c : CutS) (b : BodyS) : S31 := ⟨c.hm, c.ht, c.hf, strOfNums (nts b.data), c.hc⟩
def endF (c : CutS) (b : BodyS) : S31 × Bool × CutS := if b.status ≠ 0 then (z31, false, failC c b.status) else (reqC c b, true, endC c)
def nextF : Nat → CutS → Option (S31 × Bool × CutS)
  | 0, _ => none
  | k + 1, c =>
    if c.done = true then some (z31, false, c)
    else match c.body with
    | none => if c.wait.size = 0 then some (z31, false, c) else if FitC c then (byteF k { c with wait := tlB c.wait } (hdB c.wait)).bind fun c' => nextF k c' else none
    | some b => if b.done = true then some (endF c b) else if c.wait.size = 0 then some (z31, false, c) else (body_Body_Feed.f k b ((hdB c.wait).toNat : Int)).bind fun b' => nextF k { c with wait := tlB c.wait, body := some b' }
theorem LeO_match {α : Type} (o : Option BodyS) {f f' : Option α} {g g' : BodyS → Option α} (h1 : LeO f f') (h2 : ∀ b, LeO (g b) (g' b)) : LeO (match o with | none => f | some b => g b) (match o with | none => f' | some b => g' b) := by
  cases o with
  | none => exact h1
  | some b => exact h2 b
theorem nextF_mono : ∀ k c, LeO (nextF k c) (nextF (k + 1) c)
  | 0 => fun _ r h => by simp [nextF] at h
  | k + 1 => fun c => by
    rw [nextF, nextF]
    exact LeO.ite (LeO.refl _) (LeO_match _ (LeO.ite (LeO.refl _) (LeO.ite (LeO.bind (byteF_mono _ _ _) (fun _ => nextF_mono k _)) (LeO.refl _))) (fun b => LeO.ite (LeO.refl _) (LeO.ite (LeO.refl _) (LeO.bind (body_Body_Feed.mono _ _ _) (fun _ => nextF_mono k _)))))
theorem byteF_wait {k : Nat} {c : CutS} {x : UInt8} {r : CutS} (h : byteF k c x = some r) : r.wait.size ≤ c.wait.size := by
  unfold byteF at h
  have h0 : (⟨#[]⟩ : ByteArray).size ≤ c.wait.size := Nat.zero_le _
  split at h
  · rw [← Option.some.inj h]; exact h0
  · split at h
    · rw [← Option.some.inj h]; split
      · exact h0
      · exact Nat.le_refl _
    · split at h
      · rw [← Option.some.inj h]; exact h0
      · split at h
        · split at h
          · rw [← Option.some.inj h]; exact Nat.le_refl _
          · obtain ⟨p, _, h⟩ := Option.bind_eq_some_iff.1 h
            rw [← Option.some.inj h]; split
            · exact Nat.le_refl _
            · exact h0
        · rw [← Option.some.inj h]; exact Nat.le_refl _
def Jt (w : World) (j : Nat) (o : Obj) : Prop := w.heap[j]? = some o ∧ ∀ cs t z, o = .cells cs t z → t ≠ 70 ∧ t ≠ 5
section
variable {w w' : World} {n g : Nat} {vs vl vf vb : Value} {b b' : BodyS} {c : CutS}
theorem body_watch (h : BodyOwn w (bas n) vb b) : BodyOwn w ⟨n, Jt w⟩ vb b := by
  obtain ⟨g', ul, ud, rfl, h⟩ := h
  refine ⟨g', ul, ud, rfl, h.ge, h.blk, h.line, h.data, h.apart, fun j o hj => ⟨hj.1, fun e => ?_, fun e => ?_, fun e => ?_⟩⟩
  · subst e
    have := h.blk
    rw [hj.1] at this
    exact (hj.2 _ _ _ (Option.some.inj this)).1 rfl
  · obtain ⟨cells, hc⟩ := own_typed h.line j e.symm
    rw [hj.1] at hc
    exact (hj.2 _ _ _ (Option.some.inj hc)).2 rfl
  · obtain ⟨cells, hc⟩ := own_typed h.data j e.symm
    rw [hj.1] at hc
    exact (hj.2 _ _ _ (Option.some.inj hc)).2 rfl
theorem body_keeps (hO : BodyOwn w' ⟨n, Jt w⟩ vb b') {j : Nat} {o : Obj} (h : w.heap[j]? = some o) (ht : ∀ cs t z, o = .cells cs t z → t ≠ 70 ∧ t ≠ 5) : w'.heap[j]? = some o := by
  obtain ⟨g', ul, ud, rfl, hO⟩ := hO
  exact (hO.kept j o ⟨h, ht⟩).1
theorem body_back (hO : BodyOwn w' ⟨n, Jt w⟩ vb b') : BodyOwn w' (bas n) vb b' := by
  obtain ⟨g', ul, ud, rfl, hO⟩ := hO
  exact ⟨g', ul, ud, rfl, hO.ge, hO.blk, hO.line, hO.data, hO.apart, fun _ _ hj => hj.elim⟩
theorem CutAt.fed (h : CutAt w n g vs vl vf vb c) (hb : c.body = some b) (hO : BodyOwn w' ⟨n, Jt w⟩ vb b') : CutAt w' n g vs vl vf vb { c with body := some b' } := by
  rcases h.body with ⟨e, _⟩ | ⟨b0, e, hl, hvl, _, hf⟩
  · rw [hb] at e; cases e
  have k1 : ∀ q, q ∈ (9 :: Kd.string.E) → q ≠ 70 ∧ q ≠ 5 := by decide
  have k2 : ∀ q, q ∈ (62 :: k62.E) → q ≠ 70 ∧ q ≠ 5 := by decide
  have m1 : Kd.R Kd.string 9 w' n (fun _ => True) vs c.lines := by
    refine Kd.R_mono (Kd.R_step (Kd.R_bound h.lines) (fun k ho _ => ?_)) (fun _ _ => trivial)
    obtain ⟨_, _, _, q, hq, cells, hh⟩ := ho
    exact (body_keeps hO hh (by intro cs t z he; injection he with _ he; subst he; exact k1 _ hq)).trans hh.symm
  have m2 : Kd.R k62 62 w' n (fun _ => True) vf c.hf := by
    refine Kd.R_mono (Kd.R_step (Kd.R_bound hf) (fun k ho _ => ?_)) (fun _ _ => trivial)
    obtain ⟨_, _, _, q, hq, cells, hh⟩ := ho
    exact (body_keeps hO hh (by intro cs t z he; injection he with _ he; subst he; exact k2 _ hq)).trans hh.symm
  refine ⟨h.ge, body_keeps hO h.blk (by intro cs t z he; injection he with _ he; subst he; decide), m1, ?_, .inr ⟨b', rfl, hl, hvl, body_back hO, m2⟩⟩
  rw [hvl, hl]
  exact own_nil _ _ _ _
theorem fed_frame (hO : BodyOwn w' ⟨n, Jt w⟩ vb b') (hB : Below n w w') : CutFrame n w w' := ⟨hB, fun j o hj ho => body_keeps hO hj (fun cs t z he => ⟨(ho cs t z he).2.1, (ho cs t z he).2.2.2⟩)⟩
end
def EndOK (n g : Nat) (vf : Value) (c : CutS) (q : S31 × Bool × CutS) (e : Ending) (w' : World) : Prop := ∃ vq, e = .returned (.tuple #[.agg #[.string q.1.f0, .string q.1.f1, vq, .string q.1.f3, .bool q.1.f4], .bool q.2.1]) ∧ (∃ vs' vl' vf' vb', CutAt w' n g vs' vl' vf' vb' q.2.2) ∧ Kd.R k62 62 w' n (fun _ => True) vq q.1.f2 ∧ (vq = .slice none 0 0 ∨ vq = vf)
theorem cut_end (n g : Nat) (vs vl vf vb : Value) (c : CutS) (b : BodyS) (w : World) (h : CutAt w n g vs vl vf vb c) (hb : c.body = some b) :
    Calls Tryd.prog 23 #[.pointer (some ⟨g, 0, none⟩)] w fun e w' => EndOK n g vf c (endF c b) e w' ∧ CutFrame n w w' := by
  rcases h.body with ⟨e, _⟩ | ⟨b0, e, hl, hvl, hO, hf⟩
  · rw [hb] at e; cases e
  have e2 : b0 = b := Option.some.inj (e.symm.trans hb)
  subst e2
  unfold endF
  by_cases hs : b0.status ≠ 0
  · rw [if_pos hs]
    refine (cut_end_bad n g vs vl vf vb c b0 w h hO hs).mono ?_
    rintro e w' ⟨rfl, hA, hF⟩
    exact ⟨⟨.slice none 0 0, rfl, ⟨_, _, _, _, hA⟩, Kd.R_nil _ _ _ _ _, .inl rfl⟩, hF⟩
  · rw [if_neg hs]
    obtain ⟨Af, cf, rfl⟩ := Kd.R_slice hf
    have hs' : b0.status = 0 := by omega
    cases hc : c.hc with
    | true =>
      refine (cut_end_ok_true n g vs vl vb Af cf c b0 w h hO hf hs' hc).mono ?_
      rintro e w' ⟨rfl, hA, hR, hF⟩
      refine ⟨⟨_, by rw [reqC, hc], ⟨_, _, _, _, by rw [endC, if_pos hc]; exact hA⟩, hR, .inr rfl⟩, hF⟩
    | false =>
      refine (cut_end_ok_false n g vs vl vb Af cf c b0 w h hO hf hs' hc).mono ?_
      rintro e w' ⟨rfl, hA, hR, hF⟩
      refine ⟨⟨_, by rw [reqC, hc], ⟨_, _, _, _, by rw [endC, if_neg (by rw [hc]; decide)]; exact hA⟩, hR, .inr rfl⟩, hF⟩
def NextOK (w0 : World) (n g : Nat) (r : S31 × Bool × CutS) (e : Ending) (w' : World) : Prop := ∃ vq, e = .returned (.tuple #[.agg #[.string r.1.f0, .string r.1.f1, vq, .string r.1.f3, .bool r.1.f4], .bool r.2.1]) ∧ (∃ vs vl vf vb, CutAt w' n g vs vl vf vb r.2.2) ∧ Kd.R k62 62 w' w0.heap.size (fun _ => True) vq r.1.f2 ∧ CutFrame n w0 w'
def NextS (w0 : World) (n g gb : Nat) (r : S31 × Bool × CutS) (w' : World) : Prop := ∃ (k : Nat) (c : CutS) (vs vl vf vb : Value), nextF k c = some r ∧ CutAt w' n g vs vl vf vb c ∧ (c.done = true ∨ c.body = none ∨ ∀ q, vf.ownBlock = some q → w0.heap.size ≤ q) ∧ CutFrame n w0 w' ∧ w'.heap[gb]? = some (.cells #[.string (⟨#[]⟩ : ByteArray), .string (⟨#[]⟩ : ByteArray), .slice none 0 0, .string (⟨#[]⟩ : ByteArray), .bool false] 31 (0, 0))
def NextJ (w0 : World) (n g gb : Nat) (r : S31 × Bool × CutS) (a' : Act) (w' : World) : Prop := ∃ u4 u5 u6 u7 u8 u9 u10 u11 u12 u13 u14 u15 u16 u17 u18 u19 u20 u21 u22 u23 u24 u25 u26 u27 u28 u29 u30 u31 u32 u33 u34 u35 u36 u37 u38 u39 u40 u41 u42 u43 u44 u45 u46 u47 u48 u49 u50 u51 u52 u53 u54 u55 u56 u57 u58 u59 u60 u61 u62 u63 u64 u65 u66 u67 u68 u69 u70 u71 u72 : Value, a' = { tmps := #[.pointer (some ⟨g, 0, none⟩), undef, .pointer (some ⟨gb, 0, none⟩), .bool false, u4, u5, u6, u7, u8, u9, u10, u11, u12, u13, u14, u15, u16, u17, u18, u19, u20, u21, u22, u23, u24, u25, u26, u27, u28, u29, u30, u31, u32, u33, u34, u35, u36, u37, u38, u39, u40, u41, u42, u43, u44, u45, u46, u47, u48, u49, u50, u51, u52, u53, u54, u55, u56, u57, u58, u59, u60, u61, u62, u63, u64, u65, u66, u67, u68, u69, u70, u71, u72], defers := [] } ∧ NextS w0 n g gb r w'
def waitLen (g : Nat) (w : World) : Nat := match w.cell? ⟨g, 0, none⟩ with
  | some (.string s) => s.size
  | _ => 0
theorem waitLen_at {w : World} {n g : Nat} {vs vl vf vb : Value} {c : CutS} (h : CutAt w n g vs vl vf vb c) : waitLen g w = c.wait.size := by
  unfold waitLen
  rw [show w.cell? ⟨g, 0, none⟩ = some (.string c.wait) from (blk_cell h.blk 0).trans rfl]
theorem next_zero {w0 W : World} {n g gb : Nat} {vs vl vf vb : Value} {c : CutS} (h : CutAt W n g vs vl vf vb c) (hF : CutFrame n w0 W) (hK : W.heap[gb]? = some (.cells #[.string (⟨#[]⟩ : ByteArray), .string (⟨#[]⟩ : ByteArray), .slice none 0 0, .string (⟨#[]⟩ : ByteArray), .bool false] 31 (0, 0))) (hgb : w0.heap.size ≤ gb) (hn : n ≤ gb) (e : Ending) (he : e = .returned (.tuple #[.agg #[.string (⟨#[]⟩ : ByteArray), .string (⟨#[]⟩ : ByteArray), .slice none 0 0, .string (⟨#[]⟩ : ByteArray), .bool false], .bool false])) :
    NextOK w0 n g (z31, false, c) e (((((W.setCell ⟨gb, 0, none⟩ (.string (⟨#[]⟩ : ByteArray))).setCell ⟨gb, 1, none⟩ (.string (⟨#[]⟩ : ByteArray))).setCell ⟨gb, 2, none⟩ (.slice none 0 0)).setCell ⟨gb, 3, none⟩ (.string (⟨#[]⟩ : ByteArray))).setCell ⟨gb, 4, none⟩ (.bool false)) ∧ (((((W.setCell ⟨gb, 0, none⟩ (.string (⟨#[]⟩ : ByteArray))).setCell ⟨gb, 1, none⟩ (.string (⟨#[]⟩ : ByteArray))).setCell ⟨gb, 2, none⟩ (.slice none 0 0)).setCell ⟨gb, 3, none⟩ (.string (⟨#[]⟩ : ByteArray))).setCell ⟨gb, 4, none⟩ (.bool false)).heap[gb]? = some (.cells #[.string (⟨#[]⟩ : ByteArray), .string (⟨#[]⟩ : ByteArray), .slice none 0 0, .string (⟨#[]⟩ : ByteArray), .bool false] 31 (0, 0)) := by
  have b1 := blk_set hK 0 (.string (⟨#[]⟩ : ByteArray))
  have a1 := h.req hK 0 (.string (⟨#[]⟩ : ByteArray))
  have f1 := hF.fresh hgb hn 0 (.string (⟨#[]⟩ : ByteArray))
  have b2 := blk_set b1 1 (.string (⟨#[]⟩ : ByteArray))
  have a2 := a1.req b1 1 (.string (⟨#[]⟩ : ByteArray))
  have f2 := f1.fresh hgb hn 1 (.string (⟨#[]⟩ : ByteArray))
  have b3 := blk_set b2 2 (.slice none 0 0)
  have a3 := a2.req b2 2 (.slice none 0 0)
  have f3 := f2.fresh hgb hn 2 (.slice none 0 0)
  have b4 := blk_set b3 3 (.string (⟨#[]⟩ : ByteArray))
  have a4 := a3.req b3 3 (.string (⟨#[]⟩ : ByteArray))
  have f4 := f3.fresh hgb hn 3 (.string (⟨#[]⟩ : ByteArray))
  have b5 := blk_set b4 4 (.bool false)
  have a5 := a4.req b4 4 (.bool false)
  have f5 := f4.fresh hgb hn 4 (.bool false)
  exact ⟨⟨.slice none 0 0, he, ⟨_, _, _, _, a5⟩, Kd.R_nil _ _ _ _ _, f5⟩, by simpa using b5⟩
theorem wait_empty {s : ByteArray} (h : s.size = 0) : s.toList.isEmpty = true := by
  rw [Lib.toList_data]
  cases s with
  | mk d => simp [ByteArray.size] at h; simp [h]
theorem wait_some {s : ByteArray} (h : ¬ s.size = 0) : s.toList.isEmpty = false := by
  rw [Lib.toList_data]
  cases s with
  | mk d => simp [ByteArray.size] at h; simpa using h
theorem cut_nobody {w : World} {n g : Nat} {vs vl vf vb : Value} {c : CutS} (h : CutAt w n g vs vl vf vb c) (hb : c.body = none) : vb = .pointer none := by
  rcases h.body with ⟨_, e⟩ | ⟨b, e, _⟩
  · exact e
  · rw [hb] at e; cases e
theorem cut_body {w : World} {n g : Nat} {vs vl vf vb : Value} {c : CutS} {b : BodyS} (h : CutAt w n g vs vl vf vb c) (hb : c.body = some b) : ∃ gB, vb = .pointer (some ⟨gB, 0, none⟩) ∧ BodyOwn w (bas n) vb b := by
  rcases h.body with ⟨e, _⟩ | ⟨b0, e, _, _, hO, _⟩
  · rw [hb] at e; cases e
  · have e2 : b0 = b := Option.some.inj (e.symm.trans hb)
    subst e2
    obtain ⟨gB, ul, ud, rfl, hO⟩ := hO
    exact ⟨gB, rfl, gB, ul, ud, rfl, hO⟩
set_option maxHeartbeats 16000000 in
set_option maxRecDepth 100000 in
theorem cut_next (k0 n g : Nat) (vs0 vl0 vf0 vb0 : Value) (c0 : CutS) (r : S31 × Bool × CutS) (w : World) (h : CutAt w n g vs0 vl0 vf0 vb0 c0) (hd : c0.done = true ∨ c0.body = none) (hf : nextF k0 c0 = some r) :
    Calls Tryd.prog 13 #[.pointer (some ⟨g, 0, none⟩)] w fun e w' => NextOK w n g r e w' := by
  have H0 := Lib.hid h
  have HD0 := Lib.hid hd
  have HF0 := Lib.hid hf
  have HS0 := Lib.hid (blk_lt h.blk)
  clear h hd hf
  go_enter Tryd.func13, Tryd.ntmps13
  go_wp2
  refine wp_scope_back (l := 0) (NextJ w n g w.heap.size r) (fun _ w' => waitLen g w') ?pre ?pass
  case pre =>
    have hb : Below w.heap.size w (w.alloc (.cells #[.string (⟨#[]⟩ : ByteArray), .string (⟨#[]⟩ : ByteArray), .slice none 0 0, .string (⟨#[]⟩ : ByteArray), .bool false] 31)) := below_alloc (Below.refl _ _) _
    exact ⟨_, _, _, _, _, _, _, _, _, _, _, _, _, _, _, _, _, _, _, _, _, _, _, _, _, _, _, _, _, _, _, _, _, _, _, _, _, _, _, _, _, _, _, _, _, _, _, _, _, _, _, _, _, _, _, _, _, _, _, _, _, _, _, _, _, _, _, _, _, rfl, k0, c0, vs0, vl0, vf0, vb0, HF0.out, H0.out.below hb, HD0.out.imp_right .inl, CutFrame.ofBelow hb (by have := H0.out.ge; have := HS0.out; omega), heap_alloc_new w _⟩
  case pass =>
    rintro a W ⟨u4, u5, u6, u7, u8, u9, u10, u11, u12, u13, u14, u15, u16, u17, u18, u19, u20, u21, u22, u23, u24, u25, u26, u27, u28, u29, u30, u31, u32, u33, u34, u35, u36, u37, u38, u39, u40, u41, u42, u43, u44, u45, u46, u47, u48, u49, u50, u51, u52, u53, u54, u55, u56, u57, u58, u59, u60, u61, u62, u63, u64, u65, u66, u67, u68, u69, u70, u71, u72, rfl, k, c, vs, vl, vf, vb, hN, hA, hV, hFr, hK⟩
    have HNB : Hid (n ≤ w.heap.size) := Lib.hid (by have := H0.out.ge; have := HS0.out; omega)
    have HNG : Hid (g ≠ w.heap.size) := Lib.hid (by have := HS0.out; omega)
    have HNG2 : Hid (w.heap.size ≠ g) := Lib.hid (by have := HS0.out; omega)
    have HWL : Hid (waitLen g W = c.wait.size) := Lib.hid (waitLen_at hA)
    generalize hgbx : w.heap.size = gb at HNB HNG HNG2 hK ⊢
    have HGB := Lib.hid (show w.heap.size ≤ gb by omega)
    have HGX := Lib.hid hgbx
    clear hgbx H0 HD0 HF0 HS0
    cases k with
    | zero => simp [nextF] at hN
    | succ k =>
    rw [nextF] at hN
    by_cases hd : c.done = true
    · rw [if_pos hd] at hN
      have HR := Lib.hid (Option.some.inj hN)
      have c13 : W.cell? ⟨g, 13, none⟩ = some (.bool true) := ((blk_cell hA.blk 13).trans rfl : W.cell? ⟨g, 13, none⟩ = some (.bool c.done)).trans (by rw [hd])
      have z0 : W.cell? ⟨gb, 0, none⟩ = some (.string (⟨#[]⟩ : ByteArray)) := (blk_cell hK 0).trans rfl
      have z1 : W.cell? ⟨gb, 1, none⟩ = some (.string (⟨#[]⟩ : ByteArray)) := (blk_cell hK 1).trans rfl
      have z2 : W.cell? ⟨gb, 2, none⟩ = some (.slice none 0 0) := (blk_cell hK 2).trans rfl
      have z3 : W.cell? ⟨gb, 3, none⟩ = some (.string (⟨#[]⟩ : ByteArray)) := (blk_cell hK 3).trans rfl
      have z4 : W.cell? ⟨gb, 4, none⟩ = some (.bool false) := (blk_cell hK 4).trans rfl
      have fz0 := blk_frozen hK 0
      have fz1 := blk_frozen hK 1
      have fz2 := blk_frozen hK 2
      have fz3 := blk_frozen hK 3
      have fz4 := blk_frozen hK 4
      have H := Lib.hid hA
      have HF := Lib.hid hFr
      have HK := Lib.hid hK
      clear hN hA hV hFr hK hd
      go_wp2
      (try simp only [Exit.jump])
      have hz := next_zero H.out HF.out HK.out HGB.out HNB.out _ rfl
      refine bodyPost_ret (results_ct rfl _ _ gb 31 #[.string (⟨#[]⟩ : ByteArray), .string (⟨#[]⟩ : ByteArray), .slice none 0 0, .string (⟨#[]⟩ : ByteArray), .bool false] (0, 0) _ rfl hz.2 Tryd.underlying31 rfl (by kernel_rfl)) rfl ?_
      rw [← HR.out]
      exact hz.1
    rw [if_neg hd] at hN
    have c13 : W.cell? ⟨g, 13, none⟩ = some (.bool false) := ((blk_cell hA.blk 13).trans rfl : W.cell? ⟨g, 13, none⟩ = some (.bool c.done)).trans (by rw [show c.done = false by simpa using hd])
    have hV2 := hV.resolve_left hd
    have c0 : W.cell? ⟨g, 0, none⟩ = some (.string c.wait) := (blk_cell hA.blk 0).trans rfl
    cases hb : c.body with
    | none =>
      rw [hb] at hN
      simp only at hN
      have hvb : vb = .pointer none := cut_nobody hA hb
      subst hvb
      have c11 : W.cell? ⟨g, 11, none⟩ = some (.pointer none) := (blk_cell hA.blk 11).trans rfl
      by_cases hw : c.wait.size = 0
      · rw [if_pos hw] at hN
        have HR := Lib.hid (Option.some.inj hN)
        have w1e : c.wait.toList.isEmpty = true := wait_empty hw
        have z0 : W.cell? ⟨gb, 0, none⟩ = some (.string (⟨#[]⟩ : ByteArray)) := (blk_cell hK 0).trans rfl
        have z1 : W.cell? ⟨gb, 1, none⟩ = some (.string (⟨#[]⟩ : ByteArray)) := (blk_cell hK 1).trans rfl
        have z2 : W.cell? ⟨gb, 2, none⟩ = some (.slice none 0 0) := (blk_cell hK 2).trans rfl
        have z3 : W.cell? ⟨gb, 3, none⟩ = some (.string (⟨#[]⟩ : ByteArray)) := (blk_cell hK 3).trans rfl
        have z4 : W.cell? ⟨gb, 4, none⟩ = some (.bool false) := (blk_cell hK 4).trans rfl
        have fz0 := blk_frozen hK 0
        have fz1 := blk_frozen hK 1
        have fz2 := blk_frozen hK 2
        have fz3 := blk_frozen hK 3
        have fz4 := blk_frozen hK 4
        have H := Lib.hid hA
        have HF := Lib.hid hFr
        have HK := Lib.hid hK
        clear hN hA hV hV2 hFr hK hd hb hw
        go_wp2
        (try simp only [Exit.jump])
        have hz := next_zero H.out HF.out HK.out HGB.out HNB.out _ rfl
        refine bodyPost_ret (results_ct rfl _ _ gb 31 #[.string (⟨#[]⟩ : ByteArray), .string (⟨#[]⟩ : ByteArray), .slice none 0 0, .string (⟨#[]⟩ : ByteArray), .bool false] (0, 0) _ rfl hz.2 Tryd.underlying31 rfl (by kernel_rfl)) rfl ?_
        rw [← HR.out]
        exact hz.1
      · rw [if_neg hw] at hN
        by_cases hfit : FitC c
        · rw [if_pos hfit] at hN
          have f0 := blk_frozen hA.blk 0
          have hsz : 0 < c.wait.size := by omega
          have hsz1 : 1 ≤ c.wait.size := by omega
          have hsz2 : decide (1 ≤ c.wait.size) = true := decide_eq_true (by omega)
          have hsz3 : decide ((1 : Int) ≤ (c.wait.size : Int)) = true := decide_eq_true (by omega)
          have hsz4 : (1 : Int) ≤ (c.wait.size : Int) := by omega
          have hsz5 : (0 : Int) < (c.wait.size : Int) := by omega
          obtain ⟨x, hx⟩ : ∃ x, x = hdB c.wait := ⟨_, rfl⟩
          rw [← hx] at hN
          have hxe : ∀ h : 0 < c.wait.size, ((c.wait[0]'h).toNat : Int) = (x.toNat : Int) := fun h => (bt_at c.wait 0 h).trans (by rw [hx]; exact hdB_eq _)
          obtain ⟨c', hb1, hn1⟩ := Option.bind_eq_some_iff.1 hN
          have HB := Lib.hid hb1
          have HN := Lib.hid hn1
          have HBN := Lib.hid hb
          have HFI := Lib.hid hfit
          have HLT := Lib.hid (show c'.wait.size < c.wait.size from Nat.lt_of_le_of_lt (byteF_wait hb1) (by show (tlB c.wait).size < _; rw [tlB_size]; omega))
          have H1 := Lib.hid (show CutAt (W.setCell ⟨g, 0, none⟩ (.string (c.wait.extract 1 c.wait.size))) n g vs vl vf (.pointer none) { c with wait := tlB c.wait, body := none } from (by have e : ({ c with wait := tlB c.wait, body := none } : CutS) = { c with wait := tlB c.wait } := (by rw [hb]); rw [e]; exact hA.setWait _))
          have FR1 := Lib.hid (show CutFrame n w (W.setCell ⟨g, 0, none⟩ (.string (c.wait.extract 1 c.wait.size))) from hFr.set hA.blk hA.ge)
          have K1 := Lib.hid (blk_far (p := ⟨g, 0, none⟩) hK HNG2.out (.string (c.wait.extract 1 c.wait.size)))
          have w1e : c.wait.toList.isEmpty = false := wait_some hw
          clear hN hA hV hV2 hFr hK hd hb hw hfit hb1 hn1 hx
          go_wp2_with (go_at_call 25; refine (cut_byte k n g vs vl vf (.pointer none) { c with wait := tlB c.wait, body := none } x c' _ H1.out rfl HFI.out HB.out).mono ?_; rintro e w2 ⟨rfl, hOK, hFF⟩; have HOK := Lib.hid hOK; have HFF := Lib.hid hFF; clear hOK hFF)
          skip
          go_step3
          obtain ⟨vs', vl', vf', vb', hA', hV'⟩ := HOK.out
          have hsz' : w.heap.size ≤ (W.setCell ⟨g, 0, none⟩ (.string (c.wait.extract 1 c.wait.size))).heap.size := FR1.out.below.size
          refine ⟨rfl, ⟨_, _, _, _, _, _, _, _, _, _, _, _, _, _, _, _, _, _, _, _, _, _, _, _, _, _, _, _, _, _, _, _, _, _, _, _, _, _, _, _, _, _, _, _, _, _, _, _, _, _, _, _, _, _, _, _, _, _, _, _, _, _, _, _, _, _, _, _, _, rfl, k, c', vs', vl', vf', vb', HN.out, hA', .inr (hV'.imp_right fun hq q e => Nat.le_trans hsz' (hq q e)), FR1.out.trans HFF.out, HFF.out.other gb _ K1.out (by intro cs t z he; injection he with _ he; subst he; decide)⟩, ?_⟩
          show waitLen g _ < waitLen g W
          rw [waitLen_at hA', HWL.out]
          exact HLT.out
        · rw [if_neg hfit] at hN; cases hN
    | some b =>
      rw [hb] at hN
      simp only at hN
      obtain ⟨gB, hvb, hOb⟩ := cut_body hA hb
      subst hvb
      have c11 : W.cell? ⟨g, 11, none⟩ = some (.pointer (some ⟨gB, 0, none⟩)) := (blk_cell hA.blk 11).trans rfl
      have HOb := Lib.hid hOb
      by_cases hbd : b.done = true
      · rw [if_pos hbd] at hN
        have HR := Lib.hid (Option.some.inj hN)
        have HBB := Lib.hid hb
        have HDN := Lib.hid (show body_Body_Done.f b = some true by rw [body_Body_Done.f, hbd])
        have HVN := Lib.hid (hV2.resolve_left (by rw [hb]; simp))
        have H := Lib.hid hA
        have HF := Lib.hid hFr
        have HK := Lib.hid hK
        clear hN hA hV hV2 hFr hK hd hb hbd hOb
        go_wp2_with (first | (go_at_call 20; refine (body_Body_Done.calls _ (bas n) b true _ (by repeat (first | exact HOb.out | refine BodyOwn.drewN ?_)) HDN.out).mono ?_; rintro e w' ⟨rfl, hw1⟩; have hbw := drawn0_below hw1; have H2 := Lib.hid (H.out.below hbw); have HF2 := Lib.hid (HF.out.trans (CutFrame.ofBelow hbw (by have := blk_lt H.out.blk; have := H.out.ge; omega))); have HK2 := Lib.hid (blk_grown HK.out (grown_of_below hbw none) (by simp)); have z0 : w'.cell? ⟨gb, 0, none⟩ = some (.string (⟨#[]⟩ : ByteArray)) := (blk_cell HK2.out 0).trans rfl; have z1 : w'.cell? ⟨gb, 1, none⟩ = some (.string (⟨#[]⟩ : ByteArray)) := (blk_cell HK2.out 1).trans rfl; have z2 : w'.cell? ⟨gb, 2, none⟩ = some (.slice none 0 0) := (blk_cell HK2.out 2).trans rfl; have z3 : w'.cell? ⟨gb, 3, none⟩ = some (.string (⟨#[]⟩ : ByteArray)) := (blk_cell HK2.out 3).trans rfl; have z4 : w'.cell? ⟨gb, 4, none⟩ = some (.bool false) := (blk_cell HK2.out 4).trans rfl; have fz0 := blk_frozen HK2.out 0; have fz1 := blk_frozen HK2.out 1; have fz2 := blk_frozen HK2.out 2; have fz3 := blk_frozen HK2.out 3; have fz4 := blk_frozen HK2.out 4; clear H HF HK hw1 hbw c0 c11 c13; have H := H2; have HF := HF2; have HK := HK2; clear H2 HF2 HK2) | (go_at_call 23; refine (cut_end n g vs vl vf _ c b _ H.out HBB.out).mono ?_; rintro e w3 ⟨⟨vq, rfl, hA3, hR3, hq3⟩, hF3⟩; obtain ⟨Aq, cq, rfl⟩ := Kd.R_slice hR3; have HA3 := Lib.hid hA3; have HR3 := Lib.hid hR3; have HQ3 := Lib.hid hq3; have HF3 := Lib.hid (HF.out.trans hF3); have HK3 := Lib.hid (hF3.other gb _ HK.out (by intro cs t z he; injection he with _ he; subst he; decide)); clear hA3 hR3 hq3 hF3 z0 fz0 z1 fz1 z2 fz2 z3 fz3 z4 fz4; have z0 : w3.cell? ⟨gb, 0, none⟩ = some (.string (⟨#[]⟩ : ByteArray)) := (blk_cell HK3.out 0).trans rfl; have z1 : w3.cell? ⟨gb, 1, none⟩ = some (.string (⟨#[]⟩ : ByteArray)) := (blk_cell HK3.out 1).trans rfl; have z2 : w3.cell? ⟨gb, 2, none⟩ = some (.slice none 0 0) := (blk_cell HK3.out 2).trans rfl; have z3 : w3.cell? ⟨gb, 3, none⟩ = some (.string (⟨#[]⟩ : ByteArray)) := (blk_cell HK3.out 3).trans rfl; have z4 : w3.cell? ⟨gb, 4, none⟩ = some (.bool false) := (blk_cell HK3.out 4).trans rfl; have fz0 := blk_frozen HK3.out 0; have fz1 := blk_frozen HK3.out 1; have fz2 := blk_frozen HK3.out 2; have fz3 := blk_frozen HK3.out 3; have fz4 := blk_frozen HK3.out 4))
        (try simp only [Exit.jump])
        have b1 := blk_set HK3.out 0 (.string (endF c b).1.f0)
        have b2 := blk_set b1 1 (.string (endF c b).1.f1)
        have b3 := blk_set b2 2 (.slice Aq (endF c b).1.f2.length cq)
        have b4 := blk_set b3 3 (.string (endF c b).1.f3)
        have b5 := blk_set b4 4 (.bool (endF c b).1.f4)
        obtain ⟨vs', vl', vf', vb', a0⟩ := HA3.out
        have r0 := HR3.out
        have f0 := HF3.out
        have a1 := a0.req HK3.out 0 (.string (endF c b).1.f0)
        have a2 := a1.req b1 1 (.string (endF c b).1.f1)
        have a3 := a2.req b2 2 (.slice Aq (endF c b).1.f2.length cq)
        have a4 := a3.req b3 3 (.string (endF c b).1.f3)
        have a5 := a4.req b4 4 (.bool (endF c b).1.f4)
        have r1 := Kd.R_set r0 HK3.out (by intro q hq; revert q; decide) 0 (.string (endF c b).1.f0)
        have r2 := Kd.R_set r1 b1 (by intro q hq; revert q; decide) 1 (.string (endF c b).1.f1)
        have r3 := Kd.R_set r2 b2 (by intro q hq; revert q; decide) 2 (.slice Aq (endF c b).1.f2.length cq)
        have r4 := Kd.R_set r3 b3 (by intro q hq; revert q; decide) 3 (.string (endF c b).1.f3)
        have r5 := Kd.R_set r4 b4 (by intro q hq; revert q; decide) 4 (.bool (endF c b).1.f4)
        have f1 := f0.fresh HGB.out HNB.out 0 (.string (endF c b).1.f0)
        have f2 := f1.fresh HGB.out HNB.out 1 (.string (endF c b).1.f1)
        have f3 := f2.fresh HGB.out HNB.out 2 (.slice Aq (endF c b).1.f2.length cq)
        have f4 := f3.fresh HGB.out HNB.out 3 (.string (endF c b).1.f3)
        have f5 := f4.fresh HGB.out HNB.out 4 (.bool (endF c b).1.f4)
        refine bodyPost_ret (results_ct rfl _ _ gb 31 #[.string (endF c b).1.f0, .string (endF c b).1.f1, .slice Aq (endF c b).1.f2.length cq, .string (endF c b).1.f3, .bool (endF c b).1.f4] (0, 0) _ rfl (by simpa using b5) Tryd.underlying31 rfl (by kernel_rfl)) rfl ?_
        rw [← HR.out]
        refine ⟨_, rfl, ⟨_, _, _, _, a5⟩, Kd.R_raise (b := n) (b' := w.heap.size) (fun _ _ _ _ h => by rw [k62_openM h]; exact k62_mkM _ _ _ _) r5 (fun q e => ?_), f5⟩
        rcases HQ3.out with e2 | e2
        · rw [e2] at e; simp [Value.ownBlock] at e
        · rw [e2] at e; exact HVN.out q e
      rw [if_neg hbd] at hN
      have HDN := Lib.hid (show body_Body_Done.f b = some false by rw [body_Body_Done.f, eq_false_of_ne_true hbd])
      by_cases hw : c.wait.size = 0
      · rw [if_pos hw] at hN
        have HR := Lib.hid (Option.some.inj hN)
        have w1e : c.wait.toList.isEmpty = true := wait_empty hw
        have H := Lib.hid hA
        have HF := Lib.hid hFr
        have HK := Lib.hid hK
        clear hN hA hV hV2 hFr hK hd hb hbd hOb hw
        go_wp2_with (go_at_call 20; refine (body_Body_Done.calls _ (bas n) b false _ (by repeat (first | exact HOb.out | refine BodyOwn.drewN ?_)) HDN.out).mono ?_; rintro e w' ⟨rfl, hw1⟩; have hbw := drawn0_below hw1; have H2 := Lib.hid (H.out.below hbw); have HF2 := Lib.hid (HF.out.trans (CutFrame.ofBelow hbw (by have := blk_lt H.out.blk; have := H.out.ge; omega))); have HK2 := Lib.hid (blk_grown HK.out (grown_of_below hbw none) (by simp)); have z0 : w'.cell? ⟨gb, 0, none⟩ = some (.string (⟨#[]⟩ : ByteArray)) := (blk_cell HK2.out 0).trans rfl; have z1 : w'.cell? ⟨gb, 1, none⟩ = some (.string (⟨#[]⟩ : ByteArray)) := (blk_cell HK2.out 1).trans rfl; have z2 : w'.cell? ⟨gb, 2, none⟩ = some (.slice none 0 0) := (blk_cell HK2.out 2).trans rfl; have z3 : w'.cell? ⟨gb, 3, none⟩ = some (.string (⟨#[]⟩ : ByteArray)) := (blk_cell HK2.out 3).trans rfl; have z4 : w'.cell? ⟨gb, 4, none⟩ = some (.bool false) := (blk_cell HK2.out 4).trans rfl; have fz0 := blk_frozen HK2.out 0; have fz1 := blk_frozen HK2.out 1; have fz2 := blk_frozen HK2.out 2; have fz3 := blk_frozen HK2.out 3; have fz4 := blk_frozen HK2.out 4; have d0 : w'.cell? ⟨g, 0, none⟩ = some (.string c.wait) := (blk_cell H2.out.blk 0).trans rfl; clear H HF HK hw1 hbw c0 c11 c13; have H := H2; have HF := HF2; have HK := HK2; clear H2 HF2 HK2)
        (try simp only [Exit.jump])
        have hz := next_zero H.out HF.out HK.out HGB.out HNB.out _ rfl
        refine bodyPost_ret (results_ct rfl _ _ gb 31 #[.string (⟨#[]⟩ : ByteArray), .string (⟨#[]⟩ : ByteArray), .slice none 0 0, .string (⟨#[]⟩ : ByteArray), .bool false] (0, 0) _ rfl hz.2 Tryd.underlying31 rfl (by kernel_rfl)) rfl ?_
        rw [← HR.out]
        exact hz.1
      · rw [if_neg hw] at hN
        have f0 := blk_frozen hA.blk 0
        have hsz : 0 < c.wait.size := by omega
        have hsz1 : 1 ≤ c.wait.size := by omega
        have hsz2 : decide (1 ≤ c.wait.size) = true := decide_eq_true (by omega)
        have hsz3 : decide ((1 : Int) ≤ (c.wait.size : Int)) = true := decide_eq_true (by omega)
        have hsz4 : (1 : Int) ≤ (c.wait.size : Int) := by omega
        have hsz5 : (0 : Int) < (c.wait.size : Int) := by omega
        obtain ⟨x, hx⟩ : ∃ x, x = hdB c.wait := ⟨_, rfl⟩
        rw [← hx] at hN
        have hxe : ∀ h : 0 < c.wait.size, ((c.wait[0]'h).toNat : Int) = (x.toNat : Int) := fun h => (bt_at c.wait 0 h).trans (by rw [hx]; exact hdB_eq _)
        obtain ⟨b', hb1, hn1⟩ := Option.bind_eq_some_iff.1 hN
        have HB := Lib.hid hb1
        have HB1 := Lib.hid hb
        have HN := Lib.hid hn1
        have HVN := Lib.hid (hV2.resolve_left (by rw [hb]; simp))
        have HLT := Lib.hid (show (tlB c.wait).size < c.wait.size by rw [tlB_size]; omega)
        have w1e : c.wait.toList.isEmpty = false := wait_some hw
        have H := Lib.hid hA
        have HF := Lib.hid hFr
        have HK := Lib.hid hK
        clear hN hA hV hV2 hFr hK hd hb hbd hOb hw hb1 hn1 hx
        go_wp2_with (first | (go_at_call 20; refine (body_Body_Done.calls _ (bas n) b false _ (by repeat (first | exact HOb.out | refine BodyOwn.drewN ?_)) HDN.out).mono ?_; rintro e w' ⟨rfl, hw1⟩; have hbw := drawn0_below hw1; have H2 := Lib.hid (H.out.below hbw); have HF2 := Lib.hid (HF.out.trans (CutFrame.ofBelow hbw (by have := blk_lt H.out.blk; have := H.out.ge; omega))); have HK2 := Lib.hid (blk_grown HK.out (grown_of_below hbw none) (by simp)); have d0 : w'.cell? ⟨g, 0, none⟩ = some (.string c.wait) := (blk_cell H2.out.blk 0).trans rfl; have d11 : w'.cell? ⟨g, 11, none⟩ = some (.pointer (some ⟨gB, 0, none⟩)) := (blk_cell H2.out.blk 11).trans rfl; have fd0 := blk_frozen H2.out.blk 0; have H1 := Lib.hid (show CutAt (w'.setCell ⟨g, 0, none⟩ (.string (c.wait.extract 1 c.wait.size))) n g vs vl vf (.pointer (some ⟨gB, 0, none⟩)) { c with wait := tlB c.wait } from H2.out.setWait _); have FR1 := Lib.hid (show CutFrame n w (w'.setCell ⟨g, 0, none⟩ (.string (c.wait.extract 1 c.wait.size))) from HF2.out.set H2.out.blk H2.out.ge); have K1 := Lib.hid (blk_far (p := ⟨g, 0, none⟩) HK2.out HNG2.out (.string (c.wait.extract 1 c.wait.size))); have HO1 := Lib.hid (show BodyOwn (w'.setCell ⟨g, 0, none⟩ (.string (c.wait.extract 1 c.wait.size))) (bas n) (.pointer (some ⟨gB, 0, none⟩)) b from bodyOwn_far (BodyOwn.below HOb.out hbw) H2.out.blk); clear H HF HK H2 HF2 HK2 hw1 hbw c0 c11 c13 f0) | (go_at_call 24; refine (body_Body_Feed.calls k _ ⟨n, Jt _⟩ b (x.toNat : Int) b' _ (body_watch HO1.out) HB.out).mono ?_; rintro e w2 ⟨rfl, hO2, hB2⟩; have HA2 := Lib.hid (H1.out.fed HB1.out hO2); have HFF := Lib.hid (fed_frame hO2 hB2); clear hO2 hB2))
        go_step3
        have hsz' : w.heap.size ≤ w.heap.size := Nat.le_refl _
        refine ⟨rfl, ⟨_, _, _, _, _, _, _, _, _, _, _, _, _, _, _, _, _, _, _, _, _, _, _, _, _, _, _, _, _, _, _, _, _, _, _, _, _, _, _, _, _, _, _, _, _, _, _, _, _, _, _, _, _, _, _, _, _, _, _, _, _, _, _, _, _, _, _, _, _, rfl, k, _, _, _, _, _, HN.out, HA2.out, .inr (.inr HVN.out), FR1.out.trans HFF.out, HFF.out.other gb _ K1.out (by intro cs t z he; injection he with _ he; subst he; decide)⟩, ?_⟩
        show waitLen g _ < waitLen g W
        rw [waitLen_at HA2.out, HWL.out]
        exact HLT.out
end Go.Proofs.YtldaingkcnmaoaaDoor.X
namespace Go.Proofs.YtldaingkcnmaoaaDoor.X
open Go.RowKit Go.Proofs.YtldaingkcnmaoaaDoorW.PrintWords Go.Proofs.YtldaingkcnmaoaaDoorW.PrintLast Go.Proofs.YtldaingkcnmaoaaDoorW.PrintMore
attribute [local go_sem] max2_int min2_int max_two min_two max_three min_three max_four min_four
def allL : Nat → S31 → Bool → CutS → List S31 → Option (List S31 × Int)
  | 0, _, _, _, _ => none
  | k + 1, q, ok, c, out => if ok = true then (if out.length < 1000000000 then (if c.done = true ∨ c.body = none then (nextF k c).bind fun p => allL k p.1 p.2.1 p.2.2 (out ++ [q]) else none) else none) else some (out, c.status)
def cutter_All.f (k : Nat) (a0 : ByteArray) : Option ((List S31) × Int) := (cutter_Cutter_Feed.f newC a0).bind fun c => (nextF k c).bind fun p => allL k p.1 p.2.1 p.2.2 []
theorem allL_mono : ∀ k q ok c out, LeO (allL k q ok c out) (allL (k + 1) q ok c out)
  | 0 => fun _ _ _ _ r h => by simp [allL] at h
  | k + 1 => fun q ok c out => by
    rw [allL, allL]
    exact LeO.ite (LeO.ite (LeO.ite (LeO.bind (nextF_mono _ _) (fun _ => allL_mono k _ _ _ _)) (LeO.refl _)) (LeO.refl _)) (LeO.refl _)
theorem cutter_All.mono : ∀ a0 k, LeO (cutter_All.f k a0) (cutter_All.f (k + 1) a0) := fun a0 k => LeO.bind (LeO.refl _) (fun _ => LeO.bind (nextF_mono _ _) (fun _ => allL_mono k _ _ _ _))
theorem reqs_info : (Tryd.prog.info? 31).map (fun i => (i.zero, i.size, i.bytes)) = some (some (.agg #[.string ⟨#[]⟩, .string ⟨#[]⟩, .slice none 0 0, .string ⟨#[]⟩, .bool false]), 5, 80) := by kernel_rfl
theorem S_fields {n : Nat} {w w1 : World} {ok : Nat → Prop} {v : Value} {xs : List S31} (h : Kd.S k31 31 w n ok v xs) (hF : CutFrame n w w1) : Kd.S k31 31 w1 n (fun k => ok k ∧ k < w.heap.size) v xs := by
  have hk : ∀ q, q ∈ (31 :: k31.E) → q ≠ 59 ∧ q ≠ 70 ∧ q ≠ 9 ∧ q ≠ 5 := by decide
  refine Kd.S_mono (Kd.S_step (Kd.S_bound h) (fun k ho _ => ?_)) (fun k ho => ⟨ho.1, ho.2.2.1⟩)
  obtain ⟨_, _, _, q, hq, cells, hh⟩ := ho
  have h1 := hF.other k _ hh (by intro cs t z he; injection he with _ he; subst he; exact hk _ hq)
  exact h1.trans hh.symm
theorem S_none (w : World) (n : Nat) (ok : Nat → Prop) : Kd.S k31 31 w n ok (.slice none 0 0) [] := Kd.S_nil _ _ _ _ _
def AllS (w0 : World) (g gr : Nat) (v5 : Value) (q : S31) (c : CutS) (out : List S31) (w' : World) : Prop := ∃ vs vl vf vb vq, CutAt w' w0.heap.size g vs vl vf vb c ∧ Kd.S k31 31 w' w0.heap.size (fun k => some k ≠ vq.ownBlock) v5 out ∧ Kd.R k62 62 w' w0.heap.size (fun _ => True) vq q.f2 ∧ w'.heap[gr]? = some (.cells #[.string q.f0, .string q.f1, vq, .string q.f3, .bool q.f4] 31 (0, 0)) ∧ w0.heap.size ≤ gr ∧ some gr ≠ v5.ownBlock ∧ Below w0.heap.size w0 w'
theorem R_far2 {α : Type} {d : Kd α} {e : Nat} {w : World} {n gr : Nat} {ok : Nat → Prop} {v : Value} {xs : List α} {cs : Array Value} {t : Nat} (h : Kd.R d e w n ok v xs) (hne : some gr ≠ v.ownBlock) (hb : w.heap[gr]? = some (.cells cs t (0, 0))) (ht : ∀ q, q ∈ d.E → q ≠ t) (i : Nat) (u : Value) : Kd.R d e (w.setCell ⟨gr, i, none⟩ u) n ok v xs := by
  obtain ⟨h0, inner, ho, hr⟩ := h
  refine ⟨h0, inner, own_setCell ho hne u, hr.imp_ (fun _ _ hp => ?_)⟩
  exact d.M_mono (fun k hk => hk.1) (d.M_move (fun k hk => Below.heap_setCell w ⟨gr, i, none⟩ u k hk.2) (Kd.M_types hp hb ht))
theorem AllS.intro {w0 w' : World} {g gr : Nat} {v5 : Value} {q : S31} {c : CutS} {out : List S31} {vs vl vf vb vq : Value} (hA : CutAt w' w0.heap.size g vs vl vf vb c) (hS : Kd.S k31 31 w' w0.heap.size (fun k => some k ≠ vq.ownBlock) v5 out) (hR : Kd.R k62 62 w' w0.heap.size (fun _ => True) vq q.f2) (hX : w'.heap[gr]? = some (.cells #[.string q.f0, .string q.f1, vq, .string q.f3, .bool q.f4] 31 (0, 0))) (hg : w0.heap.size ≤ gr) (hne : some gr ≠ v5.ownBlock) (hB : Below w0.heap.size w0 w') : AllS w0 g gr v5 q c out w' := ⟨_, _, _, _, _, hA, hS, hR, hX, hg, hne, hB⟩
theorem S_far2 {w : World} {n gr : Nat} {ok : Nat → Prop} {v : Value} {xs : List S31} {cs : Array Value} (h : Kd.S k31 31 w n ok v xs) (hne : some gr ≠ v.ownBlock) (hb : w.heap[gr]? = some (.cells cs 31 (0, 0))) (i : Nat) (u : Value) : Kd.S k31 31 (w.setCell ⟨gr, i, none⟩ u) n ok v xs := by
  obtain ⟨f, h⟩ := h
  exact ⟨f, R_far2 h hne hb (show ∀ q, q ∈ k31.E → q ≠ 31 by decide) i u⟩
theorem CutAt.grown {w w1 : World} {n g : Nat} {vs vl vf vb : Value} {c : CutS} {row : Option Nat} (h : CutAt w n g vs vl vf vb c) (hg : w.grownBy w1 row) (hty : ∀ j, row = some j → ∃ cells, w.heap[j]? = some (.cells cells 31 (0, 0))) (ht : 31 ≠ 59 ∧ 31 ≠ 70 ∧ 31 ≠ 9 ∧ 31 ≠ 5 ∧ 31 ≠ 62) : CutAt w1 n g vs vl vf vb c := by
  have key : ∀ (j : Nat) (cs : Array Value) (t : Nat), w.heap[j]? = some (.cells cs t (0, 0)) → t ≠ 31 → w1.heap[j]? = w.heap[j]? := fun j cs t hj hne => hg.block j (blk_lt hj) (fun e => by
    obtain ⟨cells, hc⟩ := hty j e.symm
    rw [hj] at hc
    injection hc with hc
    injection hc with _ hc
    exact hne hc)
  have k1 : ∀ q, q ∈ (9 :: Kd.string.E) → q ≠ 31 := by decide
  have k2 : ∀ q, q ∈ (62 :: k62.E) → q ≠ 31 := by decide
  have mv : ∀ {α : Type} {d : Kd α} {e : Nat} {v : Value} {xs : List α}, (∀ q, q ∈ (e :: d.E) → q ≠ 31) → Kd.R d e w n (fun _ => True) v xs → Kd.R d e w1 n (fun _ => True) v xs := by
    intro α d e v xs hk h
    refine Kd.R_mono (Kd.R_step (Kd.R_bound h) (fun k ho _ => ?_)) (fun _ _ => trivial)
    obtain ⟨_, _, _, q, hq, cells, hh⟩ := ho
    exact key k _ _ hh (hk q hq)
  have ln : ∀ {v : Value} {l : List UInt8}, OwnBytes w n v l → OwnBytes w1 n v l := fun h => own_grown h hg hty (by decide)
  refine ⟨h.ge, (key g _ _ h.blk (by decide)).trans h.blk, mv k1 h.lines, ln h.line, ?_⟩
  rcases h.body with e | ⟨b, h1, h2, h3, ⟨g', ul, ud, rfl, hO⟩, hf⟩
  · exact .inl e
  · exact .inr ⟨b, h1, h2, h3, ⟨g', ul, ud, rfl, hO.ge, (key g' _ _ hO.blk (by decide)).trans hO.blk, ln hO.line, ln hO.data, hO.apart, fun _ _ hj => hj.elim⟩, mv k2 hf⟩
set_option maxHeartbeats 8000000 in
set_option maxRecDepth 100000 in
theorem cutter_All.calls (k : Nat) (a0 : ByteArray) (r1 : List S31) (r2 : Int) (w : World) (h : cutter_All.f k a0 = some (r1, r2)) :
    Calls Tryd.prog 9 #[.string a0] w fun e w' => ∃ v0_ : Value, e = .returned (.tuple #[v0_, .int .i64 r2]) ∧ Kd.S k31 31 w' w.heap.size (fun _ => True) v0_ r1 ∧ Below w.heap.size w w' := by
  unfold cutter_All.f at h
  obtain ⟨c1, hc1, h⟩ := Option.bind_eq_some_iff.1 h
  obtain ⟨⟨q, ok, c2⟩, hn, h⟩ := Option.bind_eq_some_iff.1 h
  simp only at h
  have hd1 : c1.done = true ∨ c1.body = none := by
    unfold cutter_Cutter_Feed.f at hc1
    split at hc1
    · rw [← Option.some.inj hc1]; exact .inr rfl
    · cases hc1
  have HC1 := Aside0.mk hc1
  have HN := Aside0.mk hn
  have HL := Aside0.mk h
  have HD1 := Aside0.mk hd1
  clear h hn hc1 hd1
  go_enter Tryd.func9, Tryd.ntmps9
  go_wp2_with (first | (go_at_call 11; refine (cutter_New.calls newC _ rfl).mono ?_; rintro e w1 ⟨V, rfl, hO, hb⟩; obtain ⟨g, vs, vl, vf, vb, rfl, hA⟩ := hO; have HA := Aside0.mk hA; have HB := Aside0.mk hb; clear hA hb) | (go_at_call 12; refine (cutter_Cutter_Feed.calls _ w.heap.size newC a0 c1 _ ⟨g, vs, vl, vf, vb, rfl, HA.out⟩ HC1.out).mono ?_; rintro e w2 ⟨rfl, hO2, hF2⟩; obtain ⟨g2, vs2, vl2, vf2, vb2, e2, hA2⟩ := hO2; cases e2; have HA2 := Aside0.mk hA2; have HB2 := Aside0.mk (HB.out.trans hF2.below); clear hA2 hF2 HA HB) | (go_at_call 13; refine (cut_next k w.heap.size g _ _ _ _ c1 (q, ok, c2) _ HA2.out HD1.out HN.out).mono ?_; rintro e w3 ⟨vq, rfl, ⟨vs3, vl3, vf3, vb3, hA3⟩, hR3, hF3⟩; obtain ⟨Aq, cq, rfl⟩ := Kd.R_slice hR3; have hA3' : CutAt w3 w.heap.size g vs3 vl3 vf3 vb3 c2 := hA3; have hR3' : Kd.R k62 62 w3 w.heap.size (fun _ => True) (.slice Aq q.f2.length cq) q.f2 := Kd.R_lower hR3 HB2.out.size; have HA3 := Aside0.mk hA3'; have HR3 := Aside0.mk hR3'; have HB3 := Aside0.mk (HB2.out.trans hF3.below); clear hA3 hR3 hF3 hA3' hR3' HA2 HB2; (try simp only at *)) | ((with_reducible refine gate_dst (N := 6) rfl ?_); refine box_event ?hg (N := 6) ?hd (cs := #[.string (⟨#[]⟩ : ByteArray), .string (⟨#[]⟩ : ByteArray), .slice none 0 0, .string (⟨#[]⟩ : ByteArray), .bool false]) (t := 31) ?hr ?_; (case hd => rfl); (case hg => rfl); (case hr => first | (go_simp; done) | (go_simp; rfl)); intro gr hg4 w4 hbox hb4; have HA4 := Aside0.mk (HA3.out.below hb4); have HR4 := Aside0.mk (Kd.R_below HR3.out hb4); have HB4 := Aside0.mk (HB3.out.trans (bel_less hb4 HB3.out.size)); have HX4 := Aside0.mk hbox; have HG4 := Aside0.mk (show w.heap.size ≤ gr by have := HB3.out.size; omega); clear HA3 HR3 HB3 hb4 hg4; have y0 : w4.cell? ⟨gr, 0, none⟩ = some (.string (⟨#[]⟩ : ByteArray)) := (blk_cell hbox 0).trans rfl; have y1 : w4.cell? ⟨gr, 1, none⟩ = some (.string (⟨#[]⟩ : ByteArray)) := (blk_cell hbox 1).trans rfl; have y2 : w4.cell? ⟨gr, 2, none⟩ = some (.slice none 0 0) := (blk_cell hbox 2).trans rfl; have y3 : w4.cell? ⟨gr, 3, none⟩ = some (.string (⟨#[]⟩ : ByteArray)) := (blk_cell hbox 3).trans rfl; have y4 : w4.cell? ⟨gr, 4, none⟩ = some (.bool false) := (blk_cell hbox 4).trans rfl; have fy0 := blk_frozen hbox 0; have fy1 := blk_frozen hbox 1; have fy2 := blk_frozen hbox 2; have fy3 := blk_frozen hbox 3; have fy4 := blk_frozen hbox 4; clear hbox))
  have b0 := HX4.out
  have a0_ := HA4.out
  have rr0 := HR4.out
  have x0 := HB4.out
  have b1 := blk_set b0 0 (.string q.f0)
  have a1_ := a0_.req b0 0 (.string q.f0)
  have rr1 := Kd.R_set rr0 b0 (by intro q hq; revert q; decide) 0 (.string q.f0)
  have x1 := x0.setCell (p := ⟨gr, 0, none⟩) HG4.out (.string q.f0)
  have b2 := blk_set b1 1 (.string q.f1)
  have a2_ := a1_.req b1 1 (.string q.f1)
  have rr2 := Kd.R_set rr1 b1 (by intro q hq; revert q; decide) 1 (.string q.f1)
  have x2 := x1.setCell (p := ⟨gr, 1, none⟩) HG4.out (.string q.f1)
  have b3 := blk_set b2 2 (.slice Aq q.f2.length cq)
  have a3_ := a2_.req b2 2 (.slice Aq q.f2.length cq)
  have rr3 := Kd.R_set rr2 b2 (by intro q hq; revert q; decide) 2 (.slice Aq q.f2.length cq)
  have x3 := x2.setCell (p := ⟨gr, 2, none⟩) HG4.out (.slice Aq q.f2.length cq)
  have b4 := blk_set b3 3 (.string q.f3)
  have a4_ := a3_.req b3 3 (.string q.f3)
  have rr4 := Kd.R_set rr3 b3 (by intro q hq; revert q; decide) 3 (.string q.f3)
  have x4 := x3.setCell (p := ⟨gr, 3, none⟩) HG4.out (.string q.f3)
  have b5 := blk_set b4 4 (.bool q.f4)
  have a5_ := a4_.req b4 4 (.bool q.f4)
  have rr5 := Kd.R_set rr4 b4 (by intro q hq; revert q; decide) 4 (.bool q.f4)
  have x5 := x4.setCell (p := ⟨gr, 4, none⟩) HG4.out (.bool q.f4)
  go_loopg [5, 6, 7] k (fun kq v5 v6 v7 w' => ∃ (gr : Nat) (q : S31) (ok : Bool) (c : CutS) (out : List S31), v6 = .pointer (some ⟨gr, 0, none⟩) ∧ v7 = .bool ok ∧ Aside0 (allL kq q ok c out = some (r1, r2)) ∧ Aside0 (kq ≤ k) ∧ Aside0 (AllS w g gr v5 q c out w'))
  case atStart => exact ⟨gr, q, ok, c2, [], rfl, rfl, ⟨HL.out⟩, ⟨Nat.le_refl _⟩, ⟨_, _, _, _, _, a5_, S_none _ _ _, rr5, by simpa using b5, HG4.out, by simp [Value.ownBlock], x5⟩⟩
  case round =>
    clear HA4 HR4 HB4 HX4 HG4 HL HN HC1 HD1 b0 a0_ rr0 x0 b1 a1_ rr1 x1 b2 a2_ rr2 x2 b3 a3_ rr3 x3 b4 a4_ rr4 x4 b5 a5_ rr5 x5 y0 fy0 y1 fy1 y2 fy2 y3 fy3 y4 fy4
    obtain ⟨gr, q, ok, c, out, rfl, rfl, HF, HK, HS⟩ := hrel
    cases gk with
    | zero => exact absurd HF.out (by simp [allL])
    | succ k1 =>
      have hF := HF.out
      rw [allL] at hF
      obtain ⟨vs, vl, vf, vb, vq, hA, hS, hR, hX, hg, hne, hB⟩ := HS.out
      obtain ⟨As, cs, rfl⟩ := Kd.S_slice hS
      obtain ⟨Aq, cq, rfl⟩ := Kd.R_slice hR
      clear HF HS
      have HA := Aside0.mk hA
      have HS := Aside0.mk hS
      have HR := Aside0.mk hR
      have HX := Aside0.mk hX
      have HG := Aside0.mk hg
      have HNE := Aside0.mk hne
      have HB := Aside0.mk hB
      have y0 := (blk_cell hX 0).trans (show _ = some (.string q.f0) from rfl)
      have y1 := (blk_cell hX 1).trans (show _ = some (.string q.f1) from rfl)
      have y2 := (blk_cell hX 2).trans (show _ = some (.slice Aq q.f2.length cq) from rfl)
      have y3 := (blk_cell hX 3).trans (show _ = some (.string q.f3) from rfl)
      have y4 := (blk_cell hX 4).trans (show _ = some (.bool q.f4) from rfl)
      clear hA hS hR hX hg hne hB
      cases ok with
      | false =>
        rw [if_neg (by decide)] at hF
        obtain ⟨rfl, rfl⟩ := Prod.mk.inj (Option.some.inj hF)
        clear hF
        go_wp2_with (go_at_call 15; refine (cutter_Cutter_Status.calls _ w.heap.size c c.status _ ⟨g, vs, vl, vf, vb, rfl, HA.out⟩ rfl).mono ?_; rintro e w' ⟨rfl, ⟨nd, rfl⟩⟩)
        go_ret2
        exact ⟨_, rfl, Kd.S_drewN (Kd.S_mono HS.out (fun _ _ => trivial)) nd, pw_below_drewN HB.out nd⟩
      | true =>
        rw [if_pos rfl] at hF
        by_cases hlim : out.length < 1000000000
        · rw [if_pos hlim] at hF
          by_cases hdn : c.done = true ∨ c.body = none
          · rw [if_pos hdn] at hF
            obtain ⟨⟨q2, ok2, c2⟩, hn, hF⟩ := Option.bind_eq_some_iff.1 hF
            simp only at hF
            have HN := Aside0.mk hn
            have HL := Aside0.mk hF
            have HD1 := Aside0.mk hdn
            have HLM := Aside0.mk hlim
            clear hn hF hdn hlim
            go_wp2_with (first | ((with_reducible refine gate_builtin (b := .append) (xs := #[.tmp 23, .tmp 25]) rfl ?_); at_builtin; refine Kd.S_append k31 (w0 := w) w.heap.size rfl (.tmp 23) (.tmp 25) 25 31 (.agg #[.string (⟨#[]⟩ : ByteArray), .string (⟨#[]⟩ : ByteArray), .slice none 0 0, .string (⟨#[]⟩ : ByteArray), .bool false]) 80 rfl Tryd.underlying25 reqs_info rfl (by decide) (by omega) (.slice As out.length cs) out q [.string q.f0, .string q.f1, .slice Aq q.f2.length cq, .string q.f3, .bool q.f4] (fun _ => True) (fun k_ => some k_ = (Value.slice Aq q.f2.length cq).ownBlock) rfl ?aX ?aP ?aK (fun _ _ => trivial) ?aO ?aB ?aS ?aL ?_; (case aX => rfl); (case aP => exact k31_mkM _ _ _ q (Kd.R_tight rfl HR.out)); (case aK => exact (fun k_ e_ => ⟨trivial, fun e2_ => by obtain ⟨c1_, h1_⟩ := Kd.R_typed HR.out k_ e_.symm; obtain ⟨c2_, h2_⟩ := Kd.S_typed HS.out k_ e2_.symm; rw [h1_] at h2_; injection h2_ with h2_; injection h2_ with _ h2_; exact absurd h2_ (by decide)⟩)); (case aO => exact Kd.S_mono HS.out (fun _ h_ => ⟨trivial, h_⟩)); (case aB => exact HB.out); (case aS => exact HB.out.size); (case aL => have := HLM.out; omega); intro v5 w5 ho5 hb5 hg5 hat5; obtain ⟨A5, c5, rfl⟩ := Kd.S_slice ho5; obtain ⟨n5, hn5⟩ : ∃ n5, n5 = (out ++ [q]).length := ⟨_, rfl⟩; rw [← hn5] at ho5 ⊢; have hA5 : CutAt w5 w.heap.size g vs vl vf vb c := HA.out.grown hg5 (Kd.S_typed HS.out) (by decide); have hX5 := blk_grown HX.out hg5 HNE.out; have HA5 := Aside0.mk hA5; have HS5 := Aside0.mk ho5; have HB5 := Aside0.mk hb5; have HN5 := Aside0.mk hn5; clear HA HR HS HB HG HNE HX y0 y1 y2 y3 y4; have y0 : w5.cell? ⟨gr, 0, none⟩ = some (.string q.f0) := (blk_cell hX5 0).trans rfl; have y1 : w5.cell? ⟨gr, 1, none⟩ = some (.string q.f1) := (blk_cell hX5 1).trans rfl; have y2 : w5.cell? ⟨gr, 2, none⟩ = some (.slice Aq q.f2.length cq) := (blk_cell hX5 2).trans rfl; have y3 : w5.cell? ⟨gr, 3, none⟩ = some (.string q.f3) := (blk_cell hX5 3).trans rfl; have y4 : w5.cell? ⟨gr, 4, none⟩ = some (.bool q.f4) := (blk_cell hX5 4).trans rfl; clear ho5 hb5 hg5 hat5 hA5 hX5 hn5) | ((with_reducible refine gate_dst (N := 6) rfl ?_); refine box_event ?hg (N := 6) ?hd (cs := #[.string (⟨#[]⟩ : ByteArray), .string (⟨#[]⟩ : ByteArray), .slice none 0 0, .string (⟨#[]⟩ : ByteArray), .bool false]) (t := 31) ?hr ?_; (case hd => rfl); (case hg => rfl); (case hr => first | (go_simp; done) | (go_simp; rfl)); intro gr2 hg6 w6 hbox hb6; have HA6 := Aside0.mk (HA5.out.below hb6); have HS6 := Aside0.mk (Kd.S_below HS5.out hb6); have HB6 := Aside0.mk (HB5.out.trans (bel_less hb6 HB5.out.size)); have HX6 := Aside0.mk hbox; have HG6 := Aside0.mk (show w.heap.size ≤ gr2 by have := HB5.out.size; omega); have HNE6 := Aside0.mk (show some gr2 ≠ (Value.slice A5 n5 c5).ownBlock from fun e_ => by have := Kd.S_lt HS5.out gr2 e_.symm; omega); clear HA5 HS5 HB5 hb6 hg6 y0 y1 y2 y3 y4; have y0 : w6.cell? ⟨gr2, 0, none⟩ = some (.string (⟨#[]⟩ : ByteArray)) := (blk_cell hbox 0).trans rfl; have y1 : w6.cell? ⟨gr2, 1, none⟩ = some (.string (⟨#[]⟩ : ByteArray)) := (blk_cell hbox 1).trans rfl; have y2 : w6.cell? ⟨gr2, 2, none⟩ = some (.slice none 0 0) := (blk_cell hbox 2).trans rfl; have y3 : w6.cell? ⟨gr2, 3, none⟩ = some (.string (⟨#[]⟩ : ByteArray)) := (blk_cell hbox 3).trans rfl; have y4 : w6.cell? ⟨gr2, 4, none⟩ = some (.bool false) := (blk_cell hbox 4).trans rfl; have fy0 := blk_frozen hbox 0; have fy1 := blk_frozen hbox 1; have fy2 := blk_frozen hbox 2; have fy3 := blk_frozen hbox 3; have fy4 := blk_frozen hbox 4; clear hbox) | (go_at_call 13; have b0 := HX6.out; have a0_ := HA6.out; have s0 := HS6.out; have x0 := HB6.out; have b1 := blk_set b0 0 (.string q.f0); have a1_ := a0_.req b0 0 (.string q.f0); have s1 := S_far2 s0 HNE6.out b0 0 (.string q.f0); have x1 := x0.setCell (p := ⟨gr2, 0, none⟩) HG6.out (.string q.f0); have b2 := blk_set b1 1 (.string q.f1); have a2_ := a1_.req b1 1 (.string q.f1); have s2 := S_far2 s1 HNE6.out b1 1 (.string q.f1); have x2 := x1.setCell (p := ⟨gr2, 1, none⟩) HG6.out (.string q.f1); have b3 := blk_set b2 2 (.slice Aq q.f2.length cq); have a3_ := a2_.req b2 2 (.slice Aq q.f2.length cq); have s3 := S_far2 s2 HNE6.out b2 2 (.slice Aq q.f2.length cq); have x3 := x2.setCell (p := ⟨gr2, 2, none⟩) HG6.out (.slice Aq q.f2.length cq); have b4 := blk_set b3 3 (.string q.f3); have a4_ := a3_.req b3 3 (.string q.f3); have s4 := S_far2 s3 HNE6.out b3 3 (.string q.f3); have x4 := x3.setCell (p := ⟨gr2, 3, none⟩) HG6.out (.string q.f3); have b5 := blk_set b4 4 (.bool q.f4); have a5_ := a4_.req b4 4 (.bool q.f4); have s5 := S_far2 s4 HNE6.out b4 4 (.bool q.f4); have x5 := x4.setCell (p := ⟨gr2, 4, none⟩) HG6.out (.bool q.f4); refine (cut_next k1 w.heap.size g _ _ _ _ c (q2, ok2, c2) _ a5_ HD1.out HN.out).mono ?_; rintro e w7 ⟨vq2, rfl, ⟨vs7, vl7, vf7, vb7, hA7⟩, hR7, hF7⟩; obtain ⟨Aq2, cq2, rfl⟩ := Kd.R_slice hR7; have hA7' : CutAt w7 w.heap.size g vs7 vl7 vf7 vb7 c2 := hA7; have hbase := Kd.R_base hR7; have hR7' : Kd.R k62 62 w7 w.heap.size (fun _ => True) (.slice Aq2 q2.f2.length cq2) q2.f2 := Kd.R_lower hR7 x5.size; have hS7 : Kd.S k31 31 w7 w.heap.size (fun k_ => some k_ ≠ (Value.slice Aq2 q2.f2.length cq2).ownBlock) (.slice A5 n5 c5) (out ++ [q]) := Kd.S_mono (S_fields s5 hF7) (fun k_ h_ e_ => by have := hbase k_ e_.symm; have := h_.2; omega); have HX7 := Aside0.mk (hF7.other gr2 _ b5 (by intro cs t z he; injection he with _ he; subst he; decide)); have HA7 := Aside0.mk hA7'; have HR7 := Aside0.mk hR7'; have HS7 := Aside0.mk hS7; have HB7 := Aside0.mk (x5.trans hF7.below); clear hA7 hA7' hR7 hR7' hS7 hF7 hbase HA6 HS6 HB6 HX6 b0 a0_ s0 x0 b1 a1_ s1 x1 b2 a2_ s2 x2 b3 a3_ s3 x3 b4 a4_ s4 x4 b5 a5_ s5 x5 y0 fy0 y1 fy1 y2 fy2 y3 fy3 y4 fy4; (try simp only at *); have y0 : w7.cell? ⟨gr2, 0, none⟩ = some (.string q.f0) := (blk_cell HX7.out 0).trans rfl; have y1 : w7.cell? ⟨gr2, 1, none⟩ = some (.string q.f1) := (blk_cell HX7.out 1).trans rfl; have y2 : w7.cell? ⟨gr2, 2, none⟩ = some (.slice Aq q.f2.length cq) := (blk_cell HX7.out 2).trans rfl; have y3 : w7.cell? ⟨gr2, 3, none⟩ = some (.string q.f3) := (blk_cell HX7.out 3).trans rfl; have y4 : w7.cell? ⟨gr2, 4, none⟩ = some (.bool q.f4) := (blk_cell HX7.out 4).trans rfl; have fy0 := blk_frozen HX7.out 0; have fy1 := blk_frozen HX7.out 1; have fy2 := blk_frozen HX7.out 2; have fy3 := blk_frozen HX7.out 3; have fy4 := blk_frozen HX7.out 4))
            have b0 := HX7.out
            have a0_ := HA7.out
            have rr0 := HR7.out
            have x0 := HB7.out
            have s0 := HS7.out
            have b1 := blk_set b0 0 (.string q2.f0)
            have a1_ := a0_.req b0 0 (.string q2.f0)
            have rr1 := Kd.R_set rr0 b0 (by intro q hq; revert q; decide) 0 (.string q2.f0)
            have x1 := x0.setCell (p := ⟨gr2, 0, none⟩) HG6.out (.string q2.f0)
            have s1 := S_far2 s0 HNE6.out b0 0 (.string q2.f0)
            have b2 := blk_set b1 1 (.string q2.f1)
            have a2_ := a1_.req b1 1 (.string q2.f1)
            have rr2 := Kd.R_set rr1 b1 (by intro q hq; revert q; decide) 1 (.string q2.f1)
            have x2 := x1.setCell (p := ⟨gr2, 1, none⟩) HG6.out (.string q2.f1)
            have s2 := S_far2 s1 HNE6.out b1 1 (.string q2.f1)
            have b3 := blk_set b2 2 (.slice Aq2 q2.f2.length cq2)
            have a3_ := a2_.req b2 2 (.slice Aq2 q2.f2.length cq2)
            have rr3 := Kd.R_set rr2 b2 (by intro q hq; revert q; decide) 2 (.slice Aq2 q2.f2.length cq2)
            have x3 := x2.setCell (p := ⟨gr2, 2, none⟩) HG6.out (.slice Aq2 q2.f2.length cq2)
            have s3 := S_far2 s2 HNE6.out b2 2 (.slice Aq2 q2.f2.length cq2)
            have b4 := blk_set b3 3 (.string q2.f3)
            have a4_ := a3_.req b3 3 (.string q2.f3)
            have rr4 := Kd.R_set rr3 b3 (by intro q hq; revert q; decide) 3 (.string q2.f3)
            have x4 := x3.setCell (p := ⟨gr2, 3, none⟩) HG6.out (.string q2.f3)
            have s4 := S_far2 s3 HNE6.out b3 3 (.string q2.f3)
            have b5 := blk_set b4 4 (.bool q2.f4)
            have a5_ := a4_.req b4 4 (.bool q2.f4)
            have rr5 := Kd.R_set rr4 b4 (by intro q hq; revert q; decide) 4 (.bool q2.f4)
            have x5 := x4.setCell (p := ⟨gr2, 4, none⟩) HG6.out (.bool q2.f4)
            have s5 := S_far2 s4 HNE6.out b4 4 (.bool q2.f4)
            have hS8 := AllS.intro a5_ s5 rr5 (by simpa using b5) HG6.out HNE6.out x5
            go_roundg k1
            case measure => have := HK.out; omega
            case rel => exact ⟨gr2, q2, ok2, c2, out ++ [q], rfl, rfl, ⟨HL.out⟩, ⟨by have := HK.out; omega⟩, ⟨hS8⟩⟩
          · rw [if_neg hdn] at hF; cases hF
        · rw [if_neg hlim] at hF; cases hF
end Go.Proofs.YtldaingkcnmaoaaDoor.X
