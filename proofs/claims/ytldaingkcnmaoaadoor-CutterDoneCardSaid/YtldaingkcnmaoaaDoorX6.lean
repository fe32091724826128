-- Made smaller by wip/squeeze.py out of this claim's texts. Not trusted: Lean checks it.
import Derived.Test.YtldaingkcnmaoaaDoorX3
import Derived.Test.YtldaingkcnmaoaaDoorX5
namespace Go.Proofs.YtldaingkcnmaoaaDoor.X
open Go.RowKit Go.Proofs.YtldaingkcnmaoaaDoorW.PrintWords Go.Proofs.YtldaingkcnmaoaaDoorW.PrintLast Go.Proofs.YtldaingkcnmaoaaDoorW.PrintMore
attribute [local go_sem] max2_int min2_int max_two min_two max_three min_three max_four min_four
set_option linter.unusedVariables false
set_option linter.unusedSimpArgs false
def takeB (b : BodyS) (c : UInt8) : BodyS := if b.data.length = 600 then { b with done := true, status := 413 } else { b with data := b.data ++ [c], left := wrap64 (b.left - 1) }
theorem body_info : (Tryd.prog.info? 5).map (fun i => (i.zero, i.size, i.bytes)) = some (some (.int .u8 0), 1, 1) := by kernel_rfl
set_option maxRecDepth 100000 in
theorem body_fail (base : Base) (g : Nat) (vl vd : Value) (b : BodyS) (s : Int) (w : World) (h : BodyAt w base g vl vd b) :
    Calls Tryd.prog 37 #[.pointer (some ⟨g, 0, none⟩), .int .i64 s] w fun e w' => e = .returned (.tuple #[]) ∧ BodyAt w' base g vl vd { b with done := true, status := s } ∧ Below base w w' := by
 have c5 : w.cell? ⟨g, 5, none⟩ = some (.int .i64 b.status) := (blk_cell h.blk 5).trans rfl
 have c6 : w.cell? ⟨g, 6, none⟩ = some (.bool b.done) := (blk_cell h.blk 6).trans rfl
 have f5 := blk_frozen h.blk 5
 have f6 := blk_frozen h.blk 6
 have H := Lib.hid h
 clear h
 go_enter Tryd.func37, Tryd.ntmps37
 go_wp2
 first | go_end0 | ((try simp only [Exit.inBlock, Exit.then]); refine bodyPost_ret (results_none rfl _ _ _) rfl ?_)
 exact ⟨rfl, (H.out.setDone true).setStatus s, ((Below.refl base w).setCell H.out.ge _).setCell H.out.ge _⟩
set_option maxHeartbeats 1000000 in
set_option maxRecDepth 100000 in
theorem body_take (base : Base) (g : Nat) (vl vd : Value) (b : BodyS) (c : UInt8) (w : World) (h : BodyAt w base g vl vd b) (h600 : b.data.length ≤ 600) :
    Calls Tryd.prog 36 #[.pointer (some ⟨g, 0, none⟩), .int .u8 (c.toNat : Int)] w fun e w' => e = .returned (.tuple #[]) ∧ (∃ vd', BodyAt w' base g vl vd' (takeB b c)) ∧ Below base w w' := by
 have hbs : base ≤ w.heap.size := Nat.le_trans h.ge (Nat.le_of_lt (blk_lt h.blk))
 obtain ⟨A, cp, rfl⟩ := own_slice h.data
 have c1 : w.cell? ⟨g, 1, none⟩ = some (.int .i64 b.left) := (blk_cell h.blk 1).trans rfl
 have c4 : w.cell? ⟨g, 4, none⟩ = some (.slice A b.data.length cp) := (blk_cell h.blk 4).trans rfl
 have H := Lib.hid h
 have HS := Lib.hid hbs
 clear h hbs
 by_cases e6 : b.data.length = 600
 · have e : takeB b c = { b with done := true, status := 413 } := by rw [takeB, if_pos e6]
   rw [e]
   have t1 : ((b.data.length : Int) == 600) = true := by rw [e6]; rfl
   clear e6 e
   go_enter Tryd.func36, Tryd.ntmps36
   go_wp2_with (go_at_call 37; refine (body_fail base g vl (.slice A b.data.length cp) b 413 _ H.out).mono ?_; rintro e w' ⟨rfl, hb1, hb2⟩; have HA := Lib.hid hb1; have HB := Lib.hid hb2; clear hb1 hb2 c1 c4)
   first | go_ret | go_end0 | ((try simp only [Exit.inBlock, Exit.then]); refine bodyPost_ret (results_none rfl _ _ _) rfl ?_)
   exact ⟨rfl, ⟨_, HA.out⟩, HB.out⟩
 · have e : takeB b c = { b with data := b.data ++ [c], left := wrap64 (b.left - 1) } := by rw [takeB, if_neg e6]
   rw [e]
   have t1 : ((b.data.length : Int) == 600) = false := beq_eq_false_iff_ne.2 (by omega)
   have HN := Lib.hid h600
   have f4 := blk_frozen H.out.blk 4
   have f1 := blk_frozen H.out.blk 1
   clear e6 e h600
   go_enter Tryd.func36, Tryd.ntmps36
   go_wp2_with ((with_reducible refine gate_builtin (b := .append) (xs := #[.tmp 16, .tmp 18]) rfl ?_); at_builtin; refine print_append_num (w0 := w) base rfl (.tmp 16) (.tmp 18) 46 5 .u8 1 rfl Tryd.underlying46 body_info (by decide) (.slice A b.data.length cp) (nts b.data) (c.toNat : Int) rfl rfl ?aO (Below.refl _ _) ?aS ?aL ?_; (case aO => rw [nts_len]; exact H.out.data); (case aS => exact HS.out); (case aL => rw [nts_len]; have := HN.out; omega); intro v1 w1 ho hb hg hat; rw [← nts_snoc, nts_len] at ho; obtain ⟨n1, hn1⟩ : ∃ n1, n1 = (b.data ++ [c]).length := ⟨_, rfl⟩; rw [← hn1] at ho; obtain ⟨A1, cp1, rfl⟩ := own_slice ho; have HN1 := Lib.hid hn1; clear hn1; have hk := blk_grown H.out.blk hg H.out.neD; have d1 : w1.cell? ⟨g, 1, none⟩ = some (.int .i64 b.left) := (blk_cell hk 1).trans rfl; have d4 : w1.cell? ⟨g, 4, none⟩ = some (.slice A b.data.length cp) := (blk_cell hk 4).trans rfl; have g1 := blk_frozen hk 1; have g4 := blk_frozen hk 4; have HO := Lib.hid ho; have HB := Lib.hid hb; have HG := Lib.hid hg; have HA := Lib.hid hat; clear ho hb hg hat hk c1 c4 f1 f4)
   first | go_ret | go_end0 | ((try simp only [Exit.inBlock, Exit.then]); refine bodyPost_ret (results_none rfl _ _ _) rfl ?_)
   have ho' : OwnBytes w1 base (.slice A1 n1 cp1) (b.data ++ [c]) := by
    have := HO.out
    rw [HN1.out] at this ⊢
    exact this
   exact ⟨rfl, ⟨_, (H.out.addData ho' HG.out HA.out).setLeft _⟩, (HB.out.setCell H.out.ge _).setCell H.out.ge _⟩
def failB (b : BodyS) (s : Int) : BodyS := { b with done := true, status := s }
def sizeB (b : BodyS) (n : Int) (ok : Bool) : BodyS := if ok = false then failB b 400 else if n = 0 then { b with st := 3 } else if n > 600 then failB b 413 else { b with st := 1, left := n }
def wholeF (k : Nat) (b : BodyS) (s : ByteArray) : Option BodyS :=
 if b.st = 0 then (ascii_Words.f k s 59).bind fun ws => if 0 < (ws.length : Int) then (ascii_Number.f k (rdOf ByteArray.empty ws 0) 16).bind fun p => some (sizeB b p.1 p.2) else none
 else if b.st = 2 then some { (if s.toList = [] then b else failB b 400) with st := 0 }
 else some { b with done := s.toList.isEmpty }
set_option maxHeartbeats 1000000 in
set_option maxRecDepth 100000 in
theorem body_whole (k : Nat) (base : Base) (g : Nat) (vl vd : Value) (b : BodyS) (s : ByteArray) (r : BodyS) (w : World) (h : BodyAt w base g vl vd b) (hf : wholeF k b s = some r) :
    Calls Tryd.prog 38 #[.pointer (some ⟨g, 0, none⟩), .string s] w fun e w' => e = .returned (.tuple #[]) ∧ BodyAt w' base g vl vd r ∧ Below base w w' := by
 have hbs : base ≤ w.heap.size := Nat.le_trans h.ge (Nat.le_of_lt (blk_lt h.blk))
 have c2 : w.cell? ⟨g, 2, none⟩ = some (.int .i64 b.st) := (blk_cell h.blk 2).trans rfl
 have H := Lib.hid h
 have HS := Lib.hid hbs
 unfold wholeF at hf
 by_cases e0 : b.st = 0
 · rw [if_pos e0] at hf
   have t0 : (b.st == 0) = true := by rw [e0]; rfl
   obtain ⟨ws, hws, hf2⟩ := Option.bind_eq_some_iff.1 hf
   clear hf
   by_cases hp : 0 < (ws.length : Int)
   · rw [if_pos hp] at hf2
     obtain ⟨⟨n, ok⟩, hn, hr⟩ := Option.bind_eq_some_iff.1 hf2
     have hr' := Option.some.inj hr
     simp only at hn hr'
     have HW := Lib.hid hws
     have HN := Lib.hid hn
     have HP := Lib.hid hp
     clear hws hn hp hf2 hr h hbs e0
     cases ok with
     | false =>
      have HR := Lib.hid (show r = failB b 400 by rw [← hr', sizeB, if_pos rfl])
      clear hr'
      go_enter Tryd.func38, Tryd.ntmps38
      go_wp2_with (first | (go_at_call 27; refine (ascii_Words.calls k s 59 ws _ HW.out).mono ?_; rintro e w1 ⟨v1, rfl, ho, hb⟩; obtain ⟨Ao, co, rfl⟩ := Kd.R_slice ho; obtain ⟨ad, ead, hx⟩ := Kd.at_string (Kd.R_reads' ho).2.2 0 (by omega) HP.out; cases ead; have hp1 := HP.out; have qi : (0 < ws.length) = True := eq_true (by omega); (try rw [show ((0 : Int)).toNat = 0 from rfl] at hx); (try rw [Addr.add_zero'] at hx); have HB := Lib.hid (bel_less hb HS.out); have HA := Lib.hid (H.out.below hb); have d1 : w1.cell? ⟨g, 1, none⟩ = some (.int .i64 b.left) := (blk_cell HA.out.blk 1).trans rfl; have d2 : w1.cell? ⟨g, 2, none⟩ = some (.int .i64 b.st) := (blk_cell HA.out.blk 2).trans rfl; have g1 := blk_frozen HA.out.blk 1; have g2 := blk_frozen HA.out.blk 2; clear ho hb c2) | (go_at_call 43; refine (ascii_Number.calls k (rdOf ByteArray.empty ws 0) 16 n false _ HN.out).mono ?_; rintro e w' ⟨rfl, ⟨nd, rfl⟩⟩; have HD0 := Lib.hid (pw_below_drewN HB.out nd); have HA2 := Lib.hid (HA.out.drewN (n := nd))) | (go_at_call 37; refine (body_fail base g vl vd b 400 _ HA2.out).mono ?_; rintro e w3 ⟨rfl, hb1, hb2⟩; have HC := Lib.hid hb1; have HD := Lib.hid hb2; clear hb1 hb2))
      first | go_end0 | ((try simp only [Exit.inBlock, Exit.then]); refine bodyPost_ret (results_none rfl _ _ _) rfl ?_)
      exact ⟨rfl, by rw [HR.out]; exact HC.out, HD0.out.trans HD.out⟩
     | true =>
      rw [sizeB, if_neg (by decide)] at hr'
      by_cases n0 : n = 0
      · rw [if_pos n0] at hr'
        subst n0
        have HR := Lib.hid hr'.symm
        clear hr'
        go_enter Tryd.func38, Tryd.ntmps38
        go_wp2_with (first | (go_at_call 27; refine (ascii_Words.calls k s 59 ws _ HW.out).mono ?_; rintro e w1 ⟨v1, rfl, ho, hb⟩; obtain ⟨Ao, co, rfl⟩ := Kd.R_slice ho; obtain ⟨ad, ead, hx⟩ := Kd.at_string (Kd.R_reads' ho).2.2 0 (by omega) HP.out; cases ead; have hp1 := HP.out; have qi : (0 < ws.length) = True := eq_true (by omega); (try rw [show ((0 : Int)).toNat = 0 from rfl] at hx); (try rw [Addr.add_zero'] at hx); have HB := Lib.hid (bel_less hb HS.out); have HA := Lib.hid (H.out.below hb); have d1 : w1.cell? ⟨g, 1, none⟩ = some (.int .i64 b.left) := (blk_cell HA.out.blk 1).trans rfl; have d2 : w1.cell? ⟨g, 2, none⟩ = some (.int .i64 b.st) := (blk_cell HA.out.blk 2).trans rfl; have g1 := blk_frozen HA.out.blk 1; have g2 := blk_frozen HA.out.blk 2; clear ho hb c2) | (go_at_call 43; refine (ascii_Number.calls k (rdOf ByteArray.empty ws 0) 16 0 true _ HN.out).mono ?_; rintro e w' ⟨rfl, ⟨nd, rfl⟩⟩; have HD0 := Lib.hid (pw_below_drewN HB.out nd); have HA2 := Lib.hid (HA.out.drewN (n := nd))))
        first | go_end0 | ((try simp only [Exit.inBlock, Exit.then]); refine bodyPost_ret (results_none rfl _ _ _) rfl ?_)
        exact ⟨rfl, by rw [HR.out]; exact HA2.out.setSt 3, HD0.out.setCell H.out.ge _⟩
      · rw [if_neg n0] at hr'
        have t1 : (n == 0) = false := beq_eq_false_iff_ne.2 n0
        clear n0
        by_cases n6 : n > 600
        · rw [if_pos n6] at hr'
          have t2 : decide (600 < n) = true := decide_eq_true n6
          have HR := Lib.hid hr'.symm
          clear hr' n6
          go_enter Tryd.func38, Tryd.ntmps38
          go_wp2_with (first | (go_at_call 27; refine (ascii_Words.calls k s 59 ws _ HW.out).mono ?_; rintro e w1 ⟨v1, rfl, ho, hb⟩; obtain ⟨Ao, co, rfl⟩ := Kd.R_slice ho; obtain ⟨ad, ead, hx⟩ := Kd.at_string (Kd.R_reads' ho).2.2 0 (by omega) HP.out; cases ead; have hp1 := HP.out; have qi : (0 < ws.length) = True := eq_true (by omega); (try rw [show ((0 : Int)).toNat = 0 from rfl] at hx); (try rw [Addr.add_zero'] at hx); have HB := Lib.hid (bel_less hb HS.out); have HA := Lib.hid (H.out.below hb); have d1 : w1.cell? ⟨g, 1, none⟩ = some (.int .i64 b.left) := (blk_cell HA.out.blk 1).trans rfl; have d2 : w1.cell? ⟨g, 2, none⟩ = some (.int .i64 b.st) := (blk_cell HA.out.blk 2).trans rfl; have g1 := blk_frozen HA.out.blk 1; have g2 := blk_frozen HA.out.blk 2; clear ho hb c2) | (go_at_call 43; refine (ascii_Number.calls k (rdOf ByteArray.empty ws 0) 16 n true _ HN.out).mono ?_; rintro e w' ⟨rfl, ⟨nd, rfl⟩⟩; have HD0 := Lib.hid (pw_below_drewN HB.out nd); have HA2 := Lib.hid (HA.out.drewN (n := nd))) | (go_at_call 37; refine (body_fail base g vl vd b 413 _ HA2.out).mono ?_; rintro e w3 ⟨rfl, hb1, hb2⟩; have HC := Lib.hid hb1; have HD := Lib.hid hb2; clear hb1 hb2))
          first | go_end0 | ((try simp only [Exit.inBlock, Exit.then]); refine bodyPost_ret (results_none rfl _ _ _) rfl ?_)
          exact ⟨rfl, by rw [HR.out]; exact HC.out, HD0.out.trans HD.out⟩
        · rw [if_neg n6] at hr'
          have t2 : decide (600 < n) = false := decide_eq_false n6
          have HR := Lib.hid hr'.symm
          clear hr' n6
          go_enter Tryd.func38, Tryd.ntmps38
          go_wp2_with (first | (go_at_call 27; refine (ascii_Words.calls k s 59 ws _ HW.out).mono ?_; rintro e w1 ⟨v1, rfl, ho, hb⟩; obtain ⟨Ao, co, rfl⟩ := Kd.R_slice ho; obtain ⟨ad, ead, hx⟩ := Kd.at_string (Kd.R_reads' ho).2.2 0 (by omega) HP.out; cases ead; have hp1 := HP.out; have qi : (0 < ws.length) = True := eq_true (by omega); (try rw [show ((0 : Int)).toNat = 0 from rfl] at hx); (try rw [Addr.add_zero'] at hx); have HB := Lib.hid (bel_less hb HS.out); have HA := Lib.hid (H.out.below hb); have d1 : w1.cell? ⟨g, 1, none⟩ = some (.int .i64 b.left) := (blk_cell HA.out.blk 1).trans rfl; have d2 : w1.cell? ⟨g, 2, none⟩ = some (.int .i64 b.st) := (blk_cell HA.out.blk 2).trans rfl; have g1 := blk_frozen HA.out.blk 1; have g2 := blk_frozen HA.out.blk 2; clear ho hb c2) | (go_at_call 43; refine (ascii_Number.calls k (rdOf ByteArray.empty ws 0) 16 n true _ HN.out).mono ?_; rintro e w' ⟨rfl, ⟨nd, rfl⟩⟩; have HD0 := Lib.hid (pw_below_drewN HB.out nd); have HA2 := Lib.hid (HA.out.drewN (n := nd))))
          first | go_end0 | ((try simp only [Exit.inBlock, Exit.then]); refine bodyPost_ret (results_none rfl _ _ _) rfl ?_)
          exact ⟨rfl, by rw [HR.out]; exact (HA2.out.setSt 1).setLeft n, (HD0.out.setCell H.out.ge _).setCell H.out.ge _⟩
   · rw [if_neg hp] at hf2; cases hf2
 · rw [if_neg e0] at hf
   have t0 : (b.st == 0) = false := beq_eq_false_iff_ne.2 e0
   clear e0
   have c6 : w.cell? ⟨g, 6, none⟩ = some (.bool b.done) := (blk_cell h.blk 6).trans rfl
   have f2 := blk_frozen h.blk 2
   have f6 := blk_frozen h.blk 6
   by_cases e2 : b.st = 2
   · rw [if_pos e2] at hf
     have t2 : (b.st == 2) = true := by rw [e2]; rfl
     have hr' := Option.some.inj hf
     clear hf e2 h hbs
     by_cases es : s.toList = []
     · rw [if_pos es] at hr'
       have u1 : s.toList.isEmpty = true := by rw [es]; rfl
       have HR := Lib.hid hr'.symm
       clear hr'
       go_enter Tryd.func38, Tryd.ntmps38
       go_wp2
       first | go_end0 | ((try simp only [Exit.inBlock, Exit.then]); refine bodyPost_ret (results_none rfl _ _ _) rfl ?_)
       exact ⟨rfl, by rw [HR.out]; exact H.out.setSt 0, (Below.refl base w).setCell H.out.ge _⟩
     · rw [if_neg es] at hr'
       have u1 : s.toList.isEmpty = false := by cases hs : s.toList with | nil => exact absurd hs es | cons a l => rfl
       have HR := Lib.hid hr'.symm
       clear hr'
       go_enter Tryd.func38, Tryd.ntmps38
       go_wp2_with (first | (go_at_call 37; refine (body_fail base g vl vd b 400 _ H.out).mono ?_; rintro e w3 ⟨rfl, hb1, hb2⟩; have HC := Lib.hid hb1; have HD := Lib.hid hb2; have d2 : w3.cell? ⟨g, 2, none⟩ = some (.int .i64 b.st) := (blk_cell HC.out.blk 2).trans rfl; have g2 := blk_frozen HC.out.blk 2; clear hb1 hb2 c2 f2))
       first | go_end0 | ((try simp only [Exit.inBlock, Exit.then]); refine bodyPost_ret (results_none rfl _ _ _) rfl ?_)
       exact ⟨rfl, by rw [HR.out]; exact HC.out.setSt 0, HD.out.setCell H.out.ge _⟩
   · rw [if_neg e2] at hf
     have t2 : (b.st == 2) = false := beq_eq_false_iff_ne.2 e2
     have HR := Lib.hid (Option.some.inj hf).symm
     clear hf e2 h hbs
     go_enter Tryd.func38, Tryd.ntmps38
     go_wp2
     first | go_end0 | ((try simp only [Exit.inBlock, Exit.then]); refine bodyPost_ret (results_none rfl _ _ _) rfl ?_)
     exact ⟨rfl, by rw [HR.out]; exact H.out.setDone _, (Below.refl base w).setCell H.out.ge _⟩
def crAt (l : List UInt8) : Bool := decide (2 ≤ l.length ∧ l[l.length - 2]? = some 13)
def lineF (k : Nat) (b : BodyS) (c : UInt8) : Option BodyS :=
 if b.line.length > 200 then some (failB b 431)
 else if c.toNat ≠ 10 then some (if crAt b.line = true then failB b 400 else b)
 else if crAt b.line = true then wholeF k { b with line := [] } (strOfNums (nts (b.line.take (b.line.length - 2))))
 else some (failB b 400)
def feedF (k : Nat) (b : BodyS) (c : UInt8) : Option BodyS :=
 if b.done = true then some b
 else if b.ch = false then some { takeB b c with done := (takeB b c).done || ((takeB b c).left == 0) }
 else if b.st = 1 then some (if (takeB b c).left = 0 then { takeB b c with st := 2 } else takeB b c)
 else lineF k { b with line := b.line ++ [c] } c
set_option maxHeartbeats 1000000 in
set_option maxRecDepth 100000 in
theorem body_feed_data (base : Base) (g : Nat) (vl vd : Value) (b : BodyS) (c : UInt8) (r : BodyS) (w : World) (h : BodyAt w base g vl vd b) (h600 : b.data.length ≤ 600) (hc : b.done = true ∨ b.ch = false ∨ b.st = 1) (hf : ∃ k, feedF k b c = some r) :
    Calls Tryd.prog 24 #[.pointer (some ⟨g, 0, none⟩), .int .u8 (c.toNat : Int)] w fun e w' => e = .returned (.tuple #[]) ∧ (∃ vd', BodyAt w' base g vl vd' r) ∧ Below base w w' := by
 obtain ⟨k, hf⟩ := hf
 have c0 : w.cell? ⟨g, 0, none⟩ = some (.bool b.ch) := (blk_cell h.blk 0).trans rfl
 have c2 : w.cell? ⟨g, 2, none⟩ = some (.int .i64 b.st) := (blk_cell h.blk 2).trans rfl
 have c6 : w.cell? ⟨g, 6, none⟩ = some (.bool b.done) := (blk_cell h.blk 6).trans rfl
 have H := Lib.hid h
 have HN := Lib.hid h600
 unfold feedF at hf
 clear h h600
 by_cases ed : b.done = true
 · rw [if_pos ed] at hf
   have HR := Lib.hid (Option.some.inj hf)
   rw [ed] at c6
   clear ed hf hc c0 c2
   go_enter Tryd.func24, Tryd.ntmps24
   go_wp2
   first | go_ret | go_end0 | ((try simp only [Exit.inBlock, Exit.then]); refine bodyPost_ret (results_none rfl _ _ _) rfl ?_)
   exact ⟨rfl, ⟨vd, by rw [← HR.out]; exact H.out⟩, Below.refl _ _⟩
 · rw [if_neg ed] at hf
   rw [show b.done = false by simpa using ed] at c6
   by_cases ec : b.ch = false
   · rw [if_pos ec] at hf
     have HR := Lib.hid (Option.some.inj hf)
     rw [ec] at c0
     clear ec hf hc ed c2
     by_cases et : (takeB b c).done = true
     · have HT := Lib.hid et
       clear et
       go_enter Tryd.func24, Tryd.ntmps24
       go_wp2_with (go_at_call 36; refine (body_take base g vl vd b c _ H.out HN.out).mono ?_; rintro e w1 ⟨rfl, ⟨vd1, hb1⟩, hb2⟩; have HA := Lib.hid hb1; have HB := Lib.hid hb2; have d6 : w1.cell? ⟨g, 6, none⟩ = some (.bool true) := (blk_cell hb1.blk 6).trans (congrArg (fun z => some (Value.bool z)) HT.out); have g6 := blk_frozen hb1.blk 6; clear hb1 hb2 c0 c6)
       first | go_ret | go_end0 | ((try simp only [Exit.inBlock, Exit.then]); refine bodyPost_ret (results_none rfl _ _ _) rfl ?_)
       exact ⟨rfl, ⟨vd1, by rw [← HR.out, HT.out]; exact HA.out.setDone true⟩, HB.out.setCell H.out.ge _⟩
     · have et' : (takeB b c).done = false := by simpa using et
       have HT := Lib.hid et'
       clear et et'
       go_enter Tryd.func24, Tryd.ntmps24
       go_wp2_with (go_at_call 36; refine (body_take base g vl vd b c _ H.out HN.out).mono ?_; rintro e w1 ⟨rfl, ⟨vd1, hb1⟩, hb2⟩; have HA := Lib.hid hb1; have HB := Lib.hid hb2; have d6 : w1.cell? ⟨g, 6, none⟩ = some (.bool false) := (blk_cell hb1.blk 6).trans (congrArg (fun z => some (Value.bool z)) HT.out); have d1 : w1.cell? ⟨g, 1, none⟩ = some (.int .i64 (takeB b c).left) := (blk_cell hb1.blk 1).trans rfl; have g6 := blk_frozen hb1.blk 6; clear hb1 hb2 c0 c6)
       first | go_ret | go_end0 | ((try simp only [Exit.inBlock, Exit.then]); refine bodyPost_ret (results_none rfl _ _ _) rfl ?_)
       exact ⟨rfl, ⟨vd1, by rw [← HR.out, HT.out, Bool.false_or]; exact HA.out.setDone _⟩, HB.out.setCell H.out.ge _⟩
   · rw [if_neg ec] at hf
     have e1 : b.st = 1 := by
      rcases hc with hc | hc | hc
      · exact absurd hc ed
      · exact absurd hc ec
      · exact hc
     rw [if_pos e1] at hf
     rw [show b.ch = true by simpa using ec] at c0
     have t1 : (b.st == 1) = true := by rw [e1]; rfl
     have HR := Lib.hid (Option.some.inj hf)
     clear ec hf hc ed e1
     by_cases et : (takeB b c).left = 0
     · have HR2 := Lib.hid (show r = { takeB b c with st := 2 } by rw [← HR.out, if_pos et])
       have t2 : ((takeB b c).left == 0) = true := by rw [et]; rfl
       clear et HR
       go_enter Tryd.func24, Tryd.ntmps24
       go_wp2_with (go_at_call 36; refine (body_take base g vl vd b c _ H.out HN.out).mono ?_; rintro e w1 ⟨rfl, ⟨vd1, hb1⟩, hb2⟩; have HA := Lib.hid hb1; have HB := Lib.hid hb2; have d1 : w1.cell? ⟨g, 1, none⟩ = some (.int .i64 (takeB b c).left) := (blk_cell hb1.blk 1).trans rfl; have d2 : w1.cell? ⟨g, 2, none⟩ = some (.int .i64 (takeB b c).st) := (blk_cell hb1.blk 2).trans rfl; have g2 := blk_frozen hb1.blk 2; clear hb1 hb2 c0 c2 c6)
       first | go_ret | go_end0 | ((try simp only [Exit.inBlock, Exit.then]); refine bodyPost_ret (results_none rfl _ _ _) rfl ?_)
       exact ⟨rfl, ⟨vd1, by rw [HR2.out]; exact HA.out.setSt 2⟩, HB.out.setCell H.out.ge _⟩
     · have HR2 := Lib.hid (show r = takeB b c by rw [← HR.out, if_neg et])
       have t2 : ((takeB b c).left == 0) = false := beq_eq_false_iff_ne.2 et
       clear et HR
       go_enter Tryd.func24, Tryd.ntmps24
       go_wp2_with (go_at_call 36; refine (body_take base g vl vd b c _ H.out HN.out).mono ?_; rintro e w1 ⟨rfl, ⟨vd1, hb1⟩, hb2⟩; have HA := Lib.hid hb1; have HB := Lib.hid hb2; have d1 : w1.cell? ⟨g, 1, none⟩ = some (.int .i64 (takeB b c).left) := (blk_cell hb1.blk 1).trans rfl; clear hb1 hb2 c0 c2 c6)
       first | go_ret | go_end0 | ((try simp only [Exit.inBlock, Exit.then]); refine bodyPost_ret (results_none rfl _ _ _) rfl ?_)
       exact ⟨rfl, ⟨vd1, by rw [HR2.out]; exact HA.out⟩, HB.out⟩
theorem line_form {w1 : World} {base n1 : Nat} {v1 : Value} {l : List UInt8} {c : UInt8} (ho : w1.ownsRow base 5 1 v1 (nts l ++ [(c.toNat : Int)]).length (nums .u8 (nts l ++ [(c.toNat : Int)]))) (hn : n1 = l.length + 1) :
    ∃ g1 cp1, v1 = .slice (some ⟨g1, 0, none⟩) n1 cp1 ∧ base ≤ g1 ∧ g1 < w1.heap.size := by
 rw [← nts_snoc, nts_len] at ho
 have hn1 : (l ++ [c]).length = n1 := by rw [hn]; simp
 rw [hn1] at ho
 obtain ⟨g1, cp1, e, h1, h2⟩ := ho.form (by omega)
 exact ⟨g1, cp1, e, h1, h2⟩
theorem line_own {w1 : World} {base n1 : Nat} {v1 : Value} {l : List UInt8} {c : UInt8} (ho : w1.ownsRow base 5 1 v1 (nts l ++ [(c.toNat : Int)]).length (nums .u8 (nts l ++ [(c.toNat : Int)]))) : OwnBytes w1 base v1 (l ++ [c]) := by
 rw [← nts_snoc, nts_len] at ho
 exact ho
theorem line_at {w w1 : World} {base : Base} {g n1 : Nat} {vl vd v1 : Value} {b : BodyS} {c : UInt8} (H : BodyAt w base g vl vd b) (ho : w1.ownsRow base 5 1 v1 (nts b.line ++ [(c.toNat : Int)]).length (nums .u8 (nts b.line ++ [(c.toNat : Int)]))) (hb : Below base w w1) (hg : w.grownBy w1 vl.ownBlock) (hat : v1.ownBlock = vl.ownBlock ∨ ∃ k, v1.ownBlock = some k ∧ w.heap.size ≤ k) (hn : n1 = b.line.length + 1) :
    BodyAt (w1.setCell ⟨g, 3, none⟩ v1) base g v1 vd { b with line := b.line ++ [c] } := H.addLine (line_own (n1 := n1) ho) hg hat
theorem line_cells {w w1 : World} {base : Base} {g g1 n1 cp1 : Nat} {vl vd : Value} {b : BodyS} {c : UInt8} (H : BodyAt w base g vl vd b) (ho : w1.ownsRow base 5 1 (.slice (some ⟨g1, 0, none⟩) n1 cp1) (nts b.line ++ [(c.toNat : Int)]).length (nums .u8 (nts b.line ++ [(c.toNat : Int)]))) (hb : Below base w w1) (hg : w.grownBy w1 vl.ownBlock) (hat : (Value.slice (some ⟨g1, 0, none⟩) n1 cp1).ownBlock = vl.ownBlock ∨ ∃ k, (Value.slice (some ⟨g1, 0, none⟩) n1 cp1).ownBlock = some k ∧ w.heap.size ≤ k) (hn : n1 = b.line.length + 1) :
    ∀ (i : Nat) (x : UInt8), (b.line ++ [c])[i]? = some x → (w1.setCell ⟨g, 3, none⟩ (.slice (some ⟨g1, 0, none⟩) n1 cp1)).cell? ⟨g1, i, none⟩ = some (.int .u8 (x.toNat : Int)) := by
 have h := (line_at H ho hb hg hat hn).line
 unfold OwnBytes at h
 intro i x hx
 have := h.cells (g := g1) rfl i (.int .u8 (x.toNat : Int)) (by simp only [nums, nts, List.getElem?_map, hx, Option.map_some])
 rwa [add_plain] at this
theorem line_cap {W : World} {base g1 n1 cp1 : Nat} {l : List UInt8} (h : OwnBytes W base (.slice (some ⟨g1, 0, none⟩) n1 cp1) l) : n1 ≤ cp1 ∧ l.length = n1 := by
 rcases h.2 with ⟨e, _⟩ | ⟨g', cap, cur, e, _, _, h1, _⟩
 · cases e
 · injection e with e1 e2 e3
   subst e3
   exact ⟨by omega, by omega⟩
theorem line_conv {W : World} {base g1 n1 cp1 : Nat} {l : List UInt8} (h : OwnBytes W base (.slice (some ⟨g1, 0, none⟩) n1 cp1) l) (m : Nat) (hm : m ≤ n1) :
    (convert 46 9 (.slice (some ⟨g1, 0, none⟩) m cp1)).run Tryd.prog W = .ok (.string (strOfNums (nts (l.take m)))) W := by
 have hl := (line_cap h).2
 refine run_convert_bytes_arg W 46 5 Tryd.underlying46 Tryd.underlying5 g1 0 m cp1 (nts (l.take m)) (by rw [nts_len, List.length_take]; omega) (fun i hi => ?_) 9 Tryd.underlying9
 have hil : i < l.length := by omega
 have := h.cells (g := g1) rfl i (.int .u8 ((l[i]'hil).toNat : Int)) (by simp [nums, nts, List.getElem?_eq_getElem hil])
 rw [add_plain] at this
 rw [Nat.zero_add, this]
 simp [nts, List.getD_eq_getElem?_getD, List.getElem?_take, hi, List.getElem?_eq_getElem hil]
set_option maxHeartbeats 16000000 in
set_option maxRecDepth 100000 in
theorem body_feed_line (k : Nat) (base : Base) (g : Nat) (vl vd : Value) (b : BodyS) (c : UInt8) (r : BodyS) (w : World) (h : BodyAt w base g vl vd b) (h200 : b.line.length ≤ 200) (hd : b.done = false) (hch : b.ch = true) (hst : b.st ≠ 1) (hf : lineF k { b with line := b.line ++ [c] } c = some r) :
    Calls Tryd.prog 24 #[.pointer (some ⟨g, 0, none⟩), .int .u8 (c.toNat : Int)] w fun e w' => e = .returned (.tuple #[]) ∧ (∃ vl', BodyAt w' base g vl' vd r) ∧ Below base w w' := by
 have hbs : base ≤ w.heap.size := Nat.le_trans h.ge (Nat.le_of_lt (blk_lt h.blk))
 obtain ⟨A, cp, rfl⟩ := own_slice h.line
 have c0 : w.cell? ⟨g, 0, none⟩ = some (.bool true) := (blk_cell h.blk 0).trans (congrArg (fun z => some (Value.bool z)) hch)
 have c2 : w.cell? ⟨g, 2, none⟩ = some (.int .i64 b.st) := (blk_cell h.blk 2).trans rfl
 have c3 : w.cell? ⟨g, 3, none⟩ = some (.slice A b.line.length cp) := (blk_cell h.blk 3).trans rfl
 have c6 : w.cell? ⟨g, 6, none⟩ = some (.bool false) := (blk_cell h.blk 6).trans (congrArg (fun z => some (Value.bool z)) hd)
 have t1 : (b.st == 1) = false := beq_eq_false_iff_ne.2 hst
 have H := Lib.hid h
 have HS := Lib.hid hbs
 have HN := Lib.hid h200
 obtain ⟨n1, hn1⟩ : ∃ n1, n1 = b.line.length + 1 := ⟨_, rfl⟩
 have hle : n1 ≤ 201 := by omega
 have hge : 1 ≤ n1 := by omega
 have HN1 := Lib.hid hn1
 have hlen : (b.line ++ [c]).length = n1 := by rw [hn1]; simp
 unfold lineF at hf
 simp only [hlen] at hf
 have HL := Lib.hid hlen
 clear h hbs hd hch hst h200 hn1 hlen
 by_cases e2 : n1 > 200
 · rw [if_pos e2] at hf
   have t2 : decide (200 < n1) = true := decide_eq_true e2
   have t3 : decide (200 < (n1 : Int)) = true := decide_eq_true (by omega)
   have HR := Lib.hid (Option.some.inj hf)
   clear hf
   go_enter Tryd.func24, Tryd.ntmps24
   go_wp2_with (first | ((with_reducible refine gate_builtin (b := .append) (xs := #[.tmp 53, .tmp 55]) rfl ?_); at_builtin; refine print_append_num (w0 := w) base rfl (.tmp 53) (.tmp 55) 46 5 .u8 1 rfl Tryd.underlying46 body_info (by decide) (.slice A b.line.length cp) (nts b.line) (c.toNat : Int) rfl rfl ?aO (Below.refl _ _) ?aS ?aL ?_; (case aO => rw [nts_len]; exact H.out.line); (case aS => exact HS.out); (case aL => rw [nts_len]; have := HN.out; omega); intro v1 w1 ho hb hg hat; obtain ⟨g1, cp1, rfl, hgb, hgl⟩ := line_form ho HN1.out; have HA := Lib.hid (line_at H.out ho hb hg hat HN1.out); have HB := Lib.hid ((hb.setCell H.out.ge (p := ⟨g, 3, none⟩) (.slice (some ⟨g1, 0, none⟩) n1 cp1))); have hk := blk_grown H.out.blk hg H.out.neL; have d3 : w1.cell? ⟨g, 3, none⟩ = some (.slice A b.line.length cp) := (blk_cell hk 3).trans rfl; have g3 := blk_frozen hk 3; have HC := Lib.hid (line_cells H.out ho hb hg hat HN1.out); clear ho hb hg hat hk hgb hgl c3 c0 c2 c6) | (go_at_call 37; refine (body_fail base g _ vd { b with line := b.line ++ [c] } 431 _ HA.out).mono ?_; rintro e w3 ⟨rfl, hb1, hb2⟩; have HC2 := Lib.hid hb1; have HD := Lib.hid hb2; clear hb1 hb2))
   first | go_ret | go_end0 | ((try simp only [Exit.inBlock, Exit.then]); refine bodyPost_ret (results_none rfl _ _ _) rfl ?_)
   exact ⟨rfl, ⟨_, by rw [← HR.out]; exact HC2.out⟩, HB.out.trans HD.out⟩
 · rw [if_neg e2] at hf
   have t2 : decide (200 < n1) = false := decide_eq_false e2
   have t3 : decide (200 < (n1 : Int)) = false := decide_eq_false (by omega)
   clear e2
   by_cases e1 : n1 = 1
   · have s1 : decide (1 < n1) = false := decide_eq_false (by omega)
     have s2 : decide (1 < (n1 : Int)) = false := decide_eq_false (by omega)
     have s3 : decide (n1 < 2) = true := decide_eq_true (by omega)
     have s4 : decide ((n1 : Int) < 2) = true := decide_eq_true (by omega)
     have hcr : crAt (b.line ++ [c]) = false := by
      unfold crAt
      rw [HL.out]
      exact decide_eq_false (fun hh => by omega)
     rw [hcr] at hf
     clear e1 hcr
     by_cases e10 : c.toNat ≠ 10
     · rw [if_pos e10, if_neg (by decide)] at hf
       have u1 : ((c.toNat : Int) != 10) = true := bne_iff_ne.2 (by omega)
       have HR := Lib.hid (Option.some.inj hf)
       clear hf e10
       go_enter Tryd.func24, Tryd.ntmps24
       go_wp2_with (first | ((with_reducible refine gate_builtin (b := .append) (xs := #[.tmp 53, .tmp 55]) rfl ?_); at_builtin; refine print_append_num (w0 := w) base rfl (.tmp 53) (.tmp 55) 46 5 .u8 1 rfl Tryd.underlying46 body_info (by decide) (.slice A b.line.length cp) (nts b.line) (c.toNat : Int) rfl rfl ?aO (Below.refl _ _) ?aS ?aL ?_; (case aO => rw [nts_len]; exact H.out.line); (case aS => exact HS.out); (case aL => rw [nts_len]; have := HN.out; omega); intro v1 w1 ho hb hg hat; obtain ⟨g1, cp1, rfl, hgb, hgl⟩ := line_form ho HN1.out; have HA := Lib.hid (line_at H.out ho hb hg hat HN1.out); have HB := Lib.hid ((hb.setCell H.out.ge (p := ⟨g, 3, none⟩) (.slice (some ⟨g1, 0, none⟩) n1 cp1))); have hk := blk_grown H.out.blk hg H.out.neL; have d3 : w1.cell? ⟨g, 3, none⟩ = some (.slice A b.line.length cp) := (blk_cell hk 3).trans rfl; have g3 := blk_frozen hk 3; have HC := Lib.hid (line_cells H.out ho hb hg hat HN1.out); clear ho hb hg hat hk hgb hgl c3 c0 c2 c6))
       first | go_ret | go_end0 | ((try simp only [Exit.inBlock, Exit.then]); refine bodyPost_ret (results_none rfl _ _ _) rfl ?_)
       exact ⟨rfl, ⟨_, by rw [← HR.out]; exact HA.out⟩, HB.out⟩
     · rw [if_neg e10, if_neg (by decide)] at hf
       have u1 : ((c.toNat : Int) != 10) = false := bne_eq_false_iff_eq.2 (by omega)
       have HR := Lib.hid (Option.some.inj hf)
       clear hf e10
       go_enter Tryd.func24, Tryd.ntmps24
       go_wp2_with (first | ((with_reducible refine gate_builtin (b := .append) (xs := #[.tmp 53, .tmp 55]) rfl ?_); at_builtin; refine print_append_num (w0 := w) base rfl (.tmp 53) (.tmp 55) 46 5 .u8 1 rfl Tryd.underlying46 body_info (by decide) (.slice A b.line.length cp) (nts b.line) (c.toNat : Int) rfl rfl ?aO (Below.refl _ _) ?aS ?aL ?_; (case aO => rw [nts_len]; exact H.out.line); (case aS => exact HS.out); (case aL => rw [nts_len]; have := HN.out; omega); intro v1 w1 ho hb hg hat; obtain ⟨g1, cp1, rfl, hgb, hgl⟩ := line_form ho HN1.out; have HA := Lib.hid (line_at H.out ho hb hg hat HN1.out); have HB := Lib.hid ((hb.setCell H.out.ge (p := ⟨g, 3, none⟩) (.slice (some ⟨g1, 0, none⟩) n1 cp1))); have hk := blk_grown H.out.blk hg H.out.neL; have d3 : w1.cell? ⟨g, 3, none⟩ = some (.slice A b.line.length cp) := (blk_cell hk 3).trans rfl; have g3 := blk_frozen hk 3; have HC := Lib.hid (line_cells H.out ho hb hg hat HN1.out); clear ho hb hg hat hk hgb hgl c3 c0 c2 c6) | (go_at_call 37; refine (body_fail base g _ vd { b with line := b.line ++ [c] } 400 _ HA.out).mono ?_; rintro e w3 ⟨rfl, hb1, hb2⟩; have HC2 := Lib.hid hb1; have HD := Lib.hid hb2; clear hb1 hb2))
       first | go_ret | go_end0 | ((try simp only [Exit.inBlock, Exit.then]); refine bodyPost_ret (results_none rfl _ _ _) rfl ?_)
       exact ⟨rfl, ⟨_, by rw [← HR.out]; exact HC2.out⟩, HB.out.trans HD.out⟩
   · have s1 : decide (1 < n1) = true := decide_eq_true (by omega)
     have s2 : decide (1 < (n1 : Int)) = true := decide_eq_true (by omega)
     have s3 : decide (n1 < 2) = false := decide_eq_false (by omega)
     have s4 : decide ((n1 : Int) < 2) = false := decide_eq_false (by omega)
     obtain ⟨m, hm⟩ : ∃ m, n1 = m + 2 := ⟨n1 - 2, by omega⟩
     have hml : m < (b.line ++ [c]).length := by rw [HL.out]; omega
     obtain ⟨x, hx⟩ : ∃ x, (b.line ++ [c])[m]? = some x := ⟨_, List.getElem?_eq_getElem hml⟩
     have HX := Lib.hid hx
     have hcr : crAt (b.line ++ [c]) = decide (x.toNat = 13) := by
      unfold crAt
      rw [HL.out, show n1 - 2 = m by omega, hx]
      by_cases ex : x.toNat = 13
      · rw [decide_eq_true ex]
        exact decide_eq_true ⟨by omega, by rw [show x = 13 from UInt8.toNat_inj.1 (by rw [ex]; rfl)]⟩
      · rw [decide_eq_false ex]
        exact decide_eq_false (fun hh => ex (by have := Option.some.inj hh.2; rw [this]; rfl))
     have hq : (n1 : Int) - 2 = (m : Int) := by omega
     have hq2 : IntKind.i64.wrap ((n1 : Int) - 2) = (m : Int) := by rw [IntKind.wrap_i64]; omega
     have hq3 : wrap64 ((n1 : Int) - 2) = (m : Int) := by unfold wrap64; omega
     have hm1 : m < n1 := by omega
     have HM := Lib.hid hm
     rw [hcr] at hf
     clear hcr hml hx hm
     by_cases e10 : c.toNat ≠ 10
     · rw [if_pos e10] at hf
       have u1 : ((c.toNat : Int) != 10) = true := bne_iff_ne.2 (by omega)
       by_cases ex : x.toNat = 13
       · rw [decide_eq_true ex, if_pos rfl] at hf
         have v1 : ((x.toNat : Int) == 13) = true := beq_iff_eq.2 (by omega)
         have HR := Lib.hid (Option.some.inj hf)
         clear hf e10 ex e1
         go_enter Tryd.func24, Tryd.ntmps24
         go_wp2_with (first | ((with_reducible refine gate_builtin (b := .append) (xs := #[.tmp 53, .tmp 55]) rfl ?_); at_builtin; refine print_append_num (w0 := w) base rfl (.tmp 53) (.tmp 55) 46 5 .u8 1 rfl Tryd.underlying46 body_info (by decide) (.slice A b.line.length cp) (nts b.line) (c.toNat : Int) rfl rfl ?aO (Below.refl _ _) ?aS ?aL ?_; (case aO => rw [nts_len]; exact H.out.line); (case aS => exact HS.out); (case aL => rw [nts_len]; have := HN.out; omega); intro v1 w1 ho hb hg hat; obtain ⟨g1, cp1, rfl, hgb, hgl⟩ := line_form ho HN1.out; have HA := Lib.hid (line_at H.out ho hb hg hat HN1.out); have HB := Lib.hid ((hb.setCell H.out.ge (p := ⟨g, 3, none⟩) (.slice (some ⟨g1, 0, none⟩) n1 cp1))); have hk := blk_grown H.out.blk hg H.out.neL; have d3 : w1.cell? ⟨g, 3, none⟩ = some (.slice A b.line.length cp) := (blk_cell hk 3).trans rfl; have g3 := blk_frozen hk 3; have HC := Lib.hid (line_cells H.out ho hb hg hat HN1.out); have dx := HC.out m x HX.out; clear ho hb hg hat hk hgb hgl c3 c0 c2 c6) | (go_at_call 37; refine (body_fail base g _ vd { b with line := b.line ++ [c] } 400 _ HA.out).mono ?_; rintro e w3 ⟨rfl, hb1, hb2⟩; have HC2 := Lib.hid hb1; have HD := Lib.hid hb2; clear hb1 hb2))
         first | go_ret | go_end0 | ((try simp only [Exit.inBlock, Exit.then]); refine bodyPost_ret (results_none rfl _ _ _) rfl ?_)
         exact ⟨rfl, ⟨_, by rw [← HR.out]; exact HC2.out⟩, HB.out.trans HD.out⟩
       · rw [decide_eq_false ex, if_neg (by decide)] at hf
         have v1 : ((x.toNat : Int) == 13) = false := beq_eq_false_iff_ne.2 (by omega)
         have HR := Lib.hid (Option.some.inj hf)
         clear hf e10 ex e1
         go_enter Tryd.func24, Tryd.ntmps24
         go_wp2_with (first | ((with_reducible refine gate_builtin (b := .append) (xs := #[.tmp 53, .tmp 55]) rfl ?_); at_builtin; refine print_append_num (w0 := w) base rfl (.tmp 53) (.tmp 55) 46 5 .u8 1 rfl Tryd.underlying46 body_info (by decide) (.slice A b.line.length cp) (nts b.line) (c.toNat : Int) rfl rfl ?aO (Below.refl _ _) ?aS ?aL ?_; (case aO => rw [nts_len]; exact H.out.line); (case aS => exact HS.out); (case aL => rw [nts_len]; have := HN.out; omega); intro v1 w1 ho hb hg hat; obtain ⟨g1, cp1, rfl, hgb, hgl⟩ := line_form ho HN1.out; have HA := Lib.hid (line_at H.out ho hb hg hat HN1.out); have HB := Lib.hid ((hb.setCell H.out.ge (p := ⟨g, 3, none⟩) (.slice (some ⟨g1, 0, none⟩) n1 cp1))); have hk := blk_grown H.out.blk hg H.out.neL; have d3 : w1.cell? ⟨g, 3, none⟩ = some (.slice A b.line.length cp) := (blk_cell hk 3).trans rfl; have g3 := blk_frozen hk 3; have HC := Lib.hid (line_cells H.out ho hb hg hat HN1.out); have dx := HC.out m x HX.out; clear ho hb hg hat hk hgb hgl c3 c0 c2 c6))
         first | go_ret | go_end0 | ((try simp only [Exit.inBlock, Exit.then]); refine bodyPost_ret (results_none rfl _ _ _) rfl ?_)
         exact ⟨rfl, ⟨_, by rw [← HR.out]; exact HA.out⟩, HB.out⟩
     · rw [if_neg e10] at hf
       have u1 : ((c.toNat : Int) != 10) = false := bne_eq_false_iff_eq.2 (by omega)
       by_cases ex : x.toNat = 13
       · rw [decide_eq_true ex, if_pos rfl] at hf
         have v1 : ((x.toNat : Int) != 13) = false := bne_eq_false_iff_eq.2 (by omega)
         have HF := Lib.hid (show wholeF k { b with line := [] } (strOfNums (nts ((b.line ++ [c]).take m))) = some r by
          rw [show n1 - 2 = m by have := HM.out; omega] at hf
          exact hf)
         clear hf e10 ex e1
         go_enter Tryd.func24, Tryd.ntmps24
         go_wp2_with (first | ((with_reducible refine gate_builtin (b := .append) (xs := #[.tmp 53, .tmp 55]) rfl ?_); at_builtin; refine print_append_num (w0 := w) base rfl (.tmp 53) (.tmp 55) 46 5 .u8 1 rfl Tryd.underlying46 body_info (by decide) (.slice A b.line.length cp) (nts b.line) (c.toNat : Int) rfl rfl ?aO (Below.refl _ _) ?aS ?aL ?_; (case aO => rw [nts_len]; exact H.out.line); (case aS => exact HS.out); (case aL => rw [nts_len]; have := HN.out; omega); intro v1 w1 ho hb hg hat; obtain ⟨g1, cp1, rfl, hgb, hgl⟩ := line_form ho HN1.out; have HA := Lib.hid (line_at H.out ho hb hg hat HN1.out); have HB := Lib.hid ((hb.setCell H.out.ge (p := ⟨g, 3, none⟩) (.slice (some ⟨g1, 0, none⟩) n1 cp1))); have hk := blk_grown H.out.blk hg H.out.neL; have d3 : w1.cell? ⟨g, 3, none⟩ = some (.slice A b.line.length cp) := (blk_cell hk 3).trans rfl; have g3 := blk_frozen hk 3; have HC := Lib.hid (line_cells H.out ho hb hg hat HN1.out); have dx := HC.out m x HX.out; have hcp := line_cap HA.out.line; have y1 : decide ((m : Int) ≤ (cp1 : Int)) = true := decide_eq_true (by omega); have y3 : m ≤ cp1 := (by omega); have cv := line_conv HA.out.line m (by omega); clear hcp; clear ho hb hg hat hk hgb hgl c3 c0 c2 c6) | (go_at_call 38; refine (body_whole k base g (.slice none 0 0) vd { b with line := [] } (strOfNums (nts ((b.line ++ [c]).take m))) r _ HA.out.nilLine HF.out).mono ?_; rintro e w3 ⟨rfl, hb1, hb2⟩; have HC2 := Lib.hid hb1; have HD := Lib.hid hb2; clear hb1 hb2 cv))
         first | go_ret | go_end0 | ((try simp only [Exit.inBlock, Exit.then]); refine bodyPost_ret (results_none rfl _ _ _) rfl ?_)
         exact ⟨rfl, ⟨_, HC2.out⟩, (HB.out.setCell H.out.ge _).trans HD.out⟩
       · rw [decide_eq_false ex, if_neg (by decide)] at hf
         have v1 : ((x.toNat : Int) != 13) = true := bne_iff_ne.2 (by omega)
         have HR := Lib.hid (Option.some.inj hf)
         clear hf e10 ex e1
         go_enter Tryd.func24, Tryd.ntmps24
         go_wp2_with (first | ((with_reducible refine gate_builtin (b := .append) (xs := #[.tmp 53, .tmp 55]) rfl ?_); at_builtin; refine print_append_num (w0 := w) base rfl (.tmp 53) (.tmp 55) 46 5 .u8 1 rfl Tryd.underlying46 body_info (by decide) (.slice A b.line.length cp) (nts b.line) (c.toNat : Int) rfl rfl ?aO (Below.refl _ _) ?aS ?aL ?_; (case aO => rw [nts_len]; exact H.out.line); (case aS => exact HS.out); (case aL => rw [nts_len]; have := HN.out; omega); intro v1 w1 ho hb hg hat; obtain ⟨g1, cp1, rfl, hgb, hgl⟩ := line_form ho HN1.out; have HA := Lib.hid (line_at H.out ho hb hg hat HN1.out); have HB := Lib.hid ((hb.setCell H.out.ge (p := ⟨g, 3, none⟩) (.slice (some ⟨g1, 0, none⟩) n1 cp1))); have hk := blk_grown H.out.blk hg H.out.neL; have d3 : w1.cell? ⟨g, 3, none⟩ = some (.slice A b.line.length cp) := (blk_cell hk 3).trans rfl; have g3 := blk_frozen hk 3; have HC := Lib.hid (line_cells H.out ho hb hg hat HN1.out); have dx := HC.out m x HX.out; clear ho hb hg hat hk hgb hgl c3 c0 c2 c6) | (go_at_call 37; refine (body_fail base g _ vd { b with line := b.line ++ [c] } 400 _ HA.out).mono ?_; rintro e w3 ⟨rfl, hb1, hb2⟩; have HC2 := Lib.hid hb1; have HD := Lib.hid hb2; clear hb1 hb2))
         first | go_ret | go_end0 | ((try simp only [Exit.inBlock, Exit.then]); refine bodyPost_ret (results_none rfl _ _ _) rfl ?_)
         exact ⟨rfl, ⟨_, by rw [← HR.out]; exact HC2.out⟩, HB.out.trans HD.out⟩
def body_Body_Feed.f (k : Nat) (a0 : BodyS) (a1 : Int) : Option BodyS := if 0 ≤ a1 ∧ a1 ≤ 255 ∧ a0.data.length ≤ 600 ∧ (a0.done = true ∨ a0.line.length ≤ 200) then feedF k a0 (UInt8.ofNat a1.toNat) else none
theorem wholeF_mono (b : BodyS) (s : ByteArray) (k : Nat) : LeO (wholeF k b s) (wholeF (k + 1) b s) := by
 unfold wholeF
 exact LeO.ite (LeO.bind (ascii_Words.mono _ _ _) (fun _ => LeO.ite (LeO.bind (ascii_Number.mono _ _ _) (fun _ => LeO.refl _)) (LeO.refl _))) (LeO.refl _)
theorem body_Body_Feed.mono : ∀ a0 a1 k, LeO (body_Body_Feed.f k a0 a1) (body_Body_Feed.f (k + 1) a0 a1) := by
 intro a0 a1 k
 unfold body_Body_Feed.f feedF lineF
 exact LeO.ite (LeO.ite (LeO.refl _) (LeO.ite (LeO.refl _) (LeO.ite (LeO.refl _) (LeO.ite (LeO.refl _) (LeO.ite (LeO.refl _) (LeO.ite (wholeF_mono _ _ _) (LeO.refl _))))))) (LeO.refl _)
theorem body_Body_Feed.calls (k : Nat) (V : Value) (base : Base) (a0 : BodyS) (a1 : Int) (r : BodyS) (w : World) (hO : BodyOwn w base V a0) (h : body_Body_Feed.f k a0 a1 = some r) :
    Calls Tryd.prog 24 #[V, .int .u8 a1] w fun e w' => e = .returned (.tuple #[]) ∧ BodyOwn w' base V r ∧ Below base w w' := by
 obtain ⟨g, vl, vd, rfl, hb⟩ := hO
 unfold body_Body_Feed.f at h
 by_cases hc : 0 ≤ a1 ∧ a1 ≤ 255 ∧ a0.data.length ≤ 600 ∧ (a0.done = true ∨ a0.line.length ≤ 200)
 · rw [if_pos hc] at h
   obtain ⟨h0, h255, h600, h200⟩ := hc
   have e : a1 = ((UInt8.ofNat a1.toNat).toNat : Int) := by simp only [UInt8.toNat_ofNat']; omega
   generalize UInt8.ofNat a1.toNat = c at h e
   rw [e]
   by_cases hd : a0.done = true ∨ a0.ch = false ∨ a0.st = 1
   · exact (body_feed_data base g vl vd a0 c r w hb h600 hd ⟨k, h⟩).mono fun e w' ⟨he, ⟨vd', hb'⟩, hbel⟩ => ⟨he, ⟨g, vl, vd', rfl, hb'⟩, hbel⟩
   · have hd1 : a0.done = false := by cases hx : a0.done with | false => rfl | true => exact absurd (.inl hx) hd
     have hd2 : a0.ch = true := by cases hx : a0.ch with | true => rfl | false => exact absurd (.inr (.inl hx)) hd
     have hd3 : a0.st ≠ 1 := fun hx => hd (.inr (.inr hx))
     unfold feedF at h
     rw [if_neg (by rw [hd1]; decide), if_neg (by rw [hd2]; decide), if_neg hd3] at h
     exact (body_feed_line k base g vl vd a0 c r w hb (h200.resolve_left (by rw [hd1]; decide)) hd1 hd2 hd3 h).mono fun e w' ⟨he, ⟨vl', hb'⟩, hbel⟩ => ⟨he, ⟨g, vl', vd, rfl, hb'⟩, hbel⟩
 · rw [if_neg hc] at h; cases h
end Go.Proofs.YtldaingkcnmaoaaDoor.X
