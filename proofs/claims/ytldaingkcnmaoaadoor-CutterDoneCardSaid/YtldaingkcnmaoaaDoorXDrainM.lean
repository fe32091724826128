-- Made smaller by wip/squeeze.py out of this claim's texts. Not trusted: Lean checks it.
import Derived.Test.YtldaingkcnmaoaaDoorXSeedsF
set_option linter.unusedVariables false
set_option linter.unusedSimpArgs false
namespace Go.Proofs.YtldaingkcnmaoaaDoor.M
open Go.RowKit Go.Proofs.YtldaingkcnmaoaaDoorW.PrintWords Go.Proofs.YtldaingkcnmaoaaDoor.X
def drainL : Nat → Bool → CutS → Option CutS
  | 0, _, _ => none
  | k + 1, ok, c => if ok = true then (if c.done = true ∨ c.body = none then (nextF k c).bind fun p => drainL k p.2.1 p.2.2 else none) else some c
def Like (cf cr : CutS) : Prop := cf.wait = eB ∧ cf.done = cr.done ∧ cf.status = cr.status
def ND (c : CutS) (rest : List UInt8) (cr : CutS) : Prop := ∃ p cf, Ev (fun k => nextF k (withW c (toBA rest))) p ∧ Ev (fun k => drainL k p.2.1 p.2.2) cf ∧ Like cf cr
theorem dr_end (c : CutS) : Ev (fun k => drainL k false c) c := by
  refine Ev.step' ?_
  simp only [drainL, Bool.false_eq_true, if_false]
  exact Ev.now _
theorem nd_free (rest : List UInt8) (c : CutS) (out : List Rq) (hi : InvC c) (hw : c.wait = eB) (hfree : c.done = true ∨ pendB c = none)
    (ih : ∀ x r, rest = x :: r → ∀ (c : CutS) (out : List Rq), InvC c → c.wait = eB → ND c r (runM r (normM c out).1 (normM c out).2).1) :
    ND c rest (runM rest c out).1 := by
  by_cases hd : c.done = true
  · rw [runM_done _ _ _ hd]
    refine ⟨(z31, false, c), c, Ev.step' ?_, dr_end c, hw, rfl, rfl⟩
    rw [withW_done _ _ hd]
    simp only [nextF, if_pos hd]
    exact Ev.now _
  · have hdf : c.done = false := by simpa using hd
    have hp := hfree.resolve_left hd
    have hwl := withW_live c (toBA rest) hdf
    cases rest with
    | nil =>
      refine ⟨(z31, false, withW c (toBA [])), withW c (toBA []), Ev.step' ?_, dr_end _, ?_⟩
      · rw [hwl]
        simp only [nextF, if_neg hd]
        cases hb : c.body with
        | none => simp only [toBA_size, List.length_nil, if_true]; exact Ev.now _
        | some b =>
          have hbd : ¬ b.done = true := fun e => by
            unfold pendB at hp
            rw [hb] at hp
            simp only [if_pos e] at hp
            cases hp
          simp only [if_neg hbd, toBA_size, List.length_nil, if_true]
          exact Ev.now _
      · rw [hwl]
        exact ⟨rfl, rfl, rfl⟩
    | cons x r =>
      rw [runM, if_neg hd]
      obtain ⟨p, cf, h1, h2, h3⟩ := ih x r rfl (stepL c x) out (stepL_inv c x hdf hi) (stepL_wait c x hw)
      refine ⟨p, cf, Ev.step' ?_, h2, h3⟩
      rw [hwl]
      simp only [nextF, if_neg hd]
      obtain ⟨g0, g1, g2, g3, g4⟩ := hi.resolve_left hd
      cases hb : c.body with
      | none =>
        have hfit : FitC ({ c with wait := toBA (x :: r) } : CutS) := ⟨g0, g1, by show c.line.length ≤ 1000; omega, by show c.lines.length ≤ 1000; omega⟩
        have hs0 : ¬ (toBA (x :: r)).size = 0 := by rw [toBA_size]; simp
        simp only [if_neg hs0, tlB_cons, hdB_cons]
        have hbf := byteF_f { c with wait := toBA r } x hdf hi
        rw [byteL_with c x _ hdf] at hbf
        have e0 : stepL c x = byteL c x := by unfold stepL; rw [hb]
        rw [e0] at h1
        have hfit2 : FitC ({ c with wait := toBA (x :: r), body := none } : CutS) := hfit
        have e9 : ({ wait := toBA r, lines := c.lines, line := c.line, size := c.size, hm := c.hm, ht := c.ht, hf := c.hf, hb := c.hb, hc := c.hc, hl := c.hl, hs := c.hs, body := none, status := c.status, done := c.done } : CutS) = { c with wait := toBA r } := by rw [← hb]
        simp only [if_pos hfit2]
        rw [e9]
        exact Ev.bind hbf h1
      | some b =>
        have hbd : ¬ b.done = true := fun e => by
          unfold pendB at hp
          rw [hb] at hp
          simp only [if_pos e] at hp
          cases hp
        have hs0 : ¬ (toBA (x :: r)).size = 0 := by rw [toBA_size]; simp
        simp only [if_neg hbd, if_neg hs0, tlB_cons, hdB_cons]
        have e0 : stepL c x = { c with body := some (stepB b x) } := by unfold stepL; rw [hb]
        rw [e0] at h1
        refine Ev.bind (feed_f b x (g4 b hb).1) ?_
        rw [withW_live { c with body := some (stepB b x) } _ hdf] at h1
        exact h1
theorem nd_step (rest : List UInt8) (ih : ∀ x r, rest = x :: r → ∀ (c : CutS) (out : List Rq), InvC c → c.wait = eB → ND c r (runM r (normM c out).1 (normM c out).2).1) (c : CutS) (out : List Rq) (hi : InvC c) (hw : c.wait = eB) :
    ND c rest (runM rest (normM c out).1 (normM c out).2).1 := by
  by_cases hfree : c.done = true ∨ pendB c = none
  · have e : normM c out = (c, out) := by
      unfold normM
      split
      · rfl
      · rename_i hd
        rw [hfree.resolve_left hd]
    rw [e]
    exact nd_free rest c out hi hw hfree ih
  · have hd : ¬ c.done = true := fun h => hfree (.inl h)
    have hdf : c.done = false := by simpa using hd
    cases hp : pendB c with
    | none => exact absurd (.inr hp) hfree
    | some b =>
      have hb := pend_body hp
      obtain ⟨g0, g1, g2, g3, g4⟩ := hi.resolve_left hd
      have hwl := withW_live c (toBA rest) hdf
      have hstep : Ev (fun k => nextF k (withW c (toBA rest))) (endF (withW c (toBA rest)) b) := by
        refine Ev.step' ?_
        rw [hwl]
        simp only [nextF, if_neg hd, hb.1, if_pos hb.2]
        exact Ev.now _
      have hn : normM c out = ((endF c b).2.2, if (endF c b).2.1 = true then out ++ [(endF c b).1] else out) := by rw [normM, if_neg hd, hp]
      rw [hn]
      by_cases hs : b.status ≠ 0
      · have e1 : endF c b = (z31, false, failC c b.status) := by rw [endF, if_pos hs]
        have e2 : endF (withW c (toBA rest)) b = (z31, false, failC (withW c (toBA rest)) b.status) := by rw [endF, if_pos hs]
        rw [e1]
        simp only [Bool.false_eq_true, if_false]
        rw [runM_done _ _ _ rfl]
        rw [e2] at hstep
        exact ⟨_, _, hstep, dr_end _, rfl, rfl, rfl⟩
      · have e1 : endF c b = (reqC c b, true, endC c) := by rw [endF, if_neg hs]
        have e2 : endF (withW c (toBA rest)) b = (reqC c b, true, withW (endC c) (toBA rest)) := by rw [endF, if_neg hs, hwl, endC_with _ _ hdf]; rfl
        rw [e1]
        simp only [if_true]
        rw [e2] at hstep
        obtain ⟨p, cf, h1, h2, h3⟩ := nd_free rest (endC c) (out ++ [reqC c b]) (endC_inv c (g4 b hb.1).2) (endC_wait c hw) (endC_free c) ih
        refine ⟨_, cf, hstep, Ev.step' ?_, h3⟩
        have hfree2 : (withW (endC c) (toBA rest)).done = true ∨ (withW (endC c) (toBA rest)).body = none := by
          unfold endC
          split
          · exact .inl (by rw [withW_done _ _ rfl]; rfl)
          · exact .inr (by rw [withW_live _ _ (by exact hdf)])
        simp only [drainL, if_true, if_pos hfree2]
        exact Ev.bind h1 h2
theorem nd_all : ∀ (rest : List UInt8) (c : CutS) (out : List Rq), InvC c → c.wait = eB → ND c rest (runM rest (normM c out).1 (normM c out).2).1 := by
  intro rest
  induction rest with
  | nil => exact fun c out => nd_step [] (fun x r e => by cases e) c out
  | cons x r ih => exact fun c out => nd_step (x :: r) (fun x' r' e => by injection e with e1 e2; subst e2; exact ih) c out
theorem feed_new (s : List UInt8) (hs : s.length ≤ 100000000) : cutter_Cutter_Feed.f newC (toBA s) = some (withW newC (toBA s)) := by
  rw [cutter_Cutter_Feed.f, if_pos (by show (0 : Nat) + (toBA s).size ≤ _; rw [toBA_size]; omega), feedC, if_neg (by decide), withW, if_neg (by decide)]
  show some ({ newC with wait := eB ++ toBA s } : CutS) = _
  rw [eB_toBA, toBA_append]
  rfl
theorem drain_over (l : List SeedR) (h : ∀ s ∈ l, s.ok) (ho : (wantS l).2.2 = true) : ∃ p cf, Ev (fun k => nextF k (withW newC (toBA (textS l)))) p ∧ Ev (fun k => drainL k p.2.1 p.2.2) cf ∧ cf.wait = eB ∧ cf.done = true ∧ cf.status = (wantS l).2.1 := by
  obtain ⟨c2, e, hd, hs⟩ := run_over l newC [] [] h ho
  rw [List.append_nil, List.nil_append] at e
  obtain ⟨p, cf, h1, h2, h3, h4, h5⟩ := nd_all (textS l) newC [] new_inv rfl
  have hn : normM newC [] = (newC, []) := rfl
  rw [hn] at h4 h5
  have e' : runM (textS l) newC [] = (c2, (wantS l).1.map SeedR.rq) := e
  rw [e'] at h4 h5
  exact ⟨p, cf, h1, h2, h3, h4.trans hd, h5.trans hs⟩
def sZ (s : S23) : S23 := ⟨s.f0, s.f1, s.f2, s.f3, s.f4, false, 0⟩
def clD (cl : Bool) (a6 : Int) : Bool := if wrOf a6 = 0 then true else cl
def sD (s : S23) : S23 := ⟨s.f0, s.f1, s.f2, s.f3, s.f4, clD s.f5 s.f6, s.f6⟩
theorem sZ_ok (s : S23) : (sR (sZ s)).wr = 0 ∧ (sR (sZ s)).cl = false := by
  have h : wrOf 0 = 0 := by
    unfold wrOf
    rw [and_zero15]
    rfl
  exact ⟨(congrArg wrOf (show (sZ s).f6 = 0 from rfl)).trans h, rfl⟩
theorem sD_over (s : S23) : (sR (sD s)).wr ≠ 0 ∨ (sR (sD s)).cl = true := by
  by_cases h : wrOf s.f6 = 0
  · exact .inr (by show clD s.f5 s.f6 = true; rw [clD, if_pos h])
  · exact .inl h
def doneL (l : List S23) (s : S23) : List SeedR := (l.map sZ).map sR ++ [sR (sD s)]
def DoneAt (l : List S23) (x : Int) (k : Nat) (T : ByteArray) : Prop := ∃ i : Nat, x = (i : Int) ∧ i + k = l.length ∧ T = toBA (textS (((l.map sZ).map sR).take i))
section
variable {l : List S23} {x : Int} {k : Nat} {T : ByteArray} {s : S23}
theorem DoneAt.size (h : DoneAt l x k T) (hl : l.length ≤ 8) : T.size ≤ 40000 := by
  obtain ⟨i, rfl, hk, rfl⟩ := h
  have h1 := textS_len (((l.map sZ).map sR).take i) (fun s hs => oks (l.map sZ) s (List.mem_of_mem_take hs))
  have h3 : (((l.map sZ).map sR).take i).length ≤ i := by rw [List.length_take]; omega
  rw [toBA_size]
  omega
theorem DoneAt.lt (h : DoneAt l x (k + 1) T) : 0 ≤ x ∧ x < (l.length : Int) := by
  obtain ⟨i, rfl, hk, _⟩ := h
  omega
theorem DoneAt.at_end (h : DoneAt l x 0 T) : x = (l.length : Int) := by
  obtain ⟨i, rfl, hk, _⟩ := h
  omega
theorem DoneAt.step (h : DoneAt l x (k + 1) T) (hl : l.length ≤ 8) : DoneAt l (wrap64 (x + 1)) k (T ++ toBA (sR (sZ (rd_T23 l x))).text) := by
  obtain ⟨i, rfl, hk, rfl⟩ := h
  have ht := taken (l.map sZ) i (by rw [List.length_map]; omega)
  have e : rd_T23 (l.map sZ) (i : Int) = sZ (rd_T23 l (i : Int)) := by
    simp only [rd_T23, Int.toNat_natCast, List.getD_eq_getElem?_getD, List.getElem?_map, List.getElem?_eq_getElem (show i < l.length by omega), Option.map_some, Option.getD_some]
  rw [e] at ht
  refine ⟨i + 1, by rw [w64 (by omega) (by omega)]; omega, by omega, ?_⟩
  rw [toBA_append, ht, textS_app, textS, textS, List.append_nil]
theorem DoneAt.whole (h : DoneAt l x 0 T) : T ++ toBA (sR (sD s)).text = toBA (textS (doneL l s)) := by
  obtain ⟨i, rfl, hk, rfl⟩ := h
  have hi : ((l.map sZ).map sR).take i = (l.map sZ).map sR := List.take_of_length_le (by rw [List.length_map, List.length_map]; omega)
  rw [hi, toBA_append, doneL, textS_app, textS, textS, List.append_nil]
end
theorem done_ok (l : List S23) (s : S23) : ∀ x ∈ doneL l s, x.ok := by
  intro x hx
  rcases List.mem_append.1 hx with hx | hx
  · exact oks _ x hx
  · rw [List.mem_singleton.1 hx]; exact sR_ok _
theorem done_over (l : List S23) (s : S23) : (wantS (doneL l s)).2.2 = true := want_over _ _ (fun x hx => by
  obtain ⟨y, hy, rfl⟩ := List.mem_map.1 hx
  obtain ⟨z, _, rfl⟩ := List.mem_map.1 hy
  exact sZ_ok z) (sD_over s)
theorem done_all (l : List S23) (s : S23) (more : ByteArray) (hl : l.length ≤ 8) (hm : more.size ≤ 1000) (T : ByteArray) (hT : T = toBA (textS (doneL l s))) :
    ∃ (R : List S31) (st : Int) (c1 : CutS) (p : S31 × Bool × CutS) (cf : CutS), T.size ≤ 45000 ∧ Ev (fun k => cutter_All.f k T) (R, st) ∧ Ev (fun k => cutter_All.f k (T ++ more)) (R, st) ∧ cutter_Cutter_Feed.f newC T = some c1 ∧ c1.body = none ∧ Ev (fun k => nextF k c1) p ∧ Ev (fun k => drainL k p.2.1 p.2.2) cf ∧ cf.wait = eB ∧ cf.done = true ∧ cf.status = st := by
  subst hT
  have hlen : (doneL l s).length ≤ 9 := by rw [doneL, List.length_append, List.length_map, List.length_map]; simp only [List.length_singleton]; omega
  have hsz := textS_len _ (done_ok l s)
  have em : more = toBA more.data.toList := (toBA_data more).symm
  obtain ⟨p, cf, h1, h2, h3, h4, h5⟩ := drain_over (doneL l s) (done_ok l s) (done_over l s)
  have hmore := seeds_more (doneL l s) (done_ok l s) (by omega) (done_over l s) more.data.toList (by rw [Array.length_toList]; exact hm)
  rw [← toBA_append, ← em] at hmore
  exact ⟨_, _, _, p, cf, by rw [toBA_size]; omega, seeds_all (doneL l s) (done_ok l s) (by omega), hmore, feed_new _ (by omega), rfl, h1, h2, h3, h4, h5⟩
end Go.Proofs.YtldaingkcnmaoaaDoor.M
