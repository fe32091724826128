-- Made smaller by wip/squeeze.py out of this claim's texts. Not trusted: Lean checks it.
import Derived.Test.YtldaingkcnmaoaaDoorXSeedsF
set_option linter.unusedVariables false
set_option linter.unusedSimpArgs false
namespace Go.Proofs.YtldaingkcnmaoaaDoor.M
open Go.RowKit Go.Proofs.YtldaingkcnmaoaaDoor.X Go.Proofs.YtldaingkcnmaoaaDoorW.PrintWords
def SeedsAt (l : List S23) (x : Int) (k : Nat) (T : ByteArray) (nw st : Int) (ov : Bool) : Prop :=
  ∃ i : Nat, x = (i : Int) ∧ i + k = l.length ∧ T = toBA (textS ((l.map sR).take i)) ∧ nw = ((wantS ((l.map sR).take i)).1.length : Int) ∧ st = (wantS ((l.map sR).take i)).2.1 ∧ ov = (wantS ((l.map sR).take i)).2.2
theorem SeedsAt.start (l : List S23) : SeedsAt l 0 l.length (⟨#[]⟩ : ByteArray) 0 0 false := ⟨0, rfl, Nat.zero_add _, rfl, rfl, rfl, rfl⟩
section
variable {l : List S23} {x : Int} {k : Nat} {T : ByteArray} {nw st : Int} {ov : Bool}
theorem SeedsAt.size (h : SeedsAt l x k T nw st ov) (hl : l.length ≤ 20) : 0 ≤ x ∧ x ≤ 20 ∧ T.size ≤ 100000 ∧ 0 ≤ nw ∧ nw ≤ 20 := by
  obtain ⟨i, rfl, hk, rfl, rfl, _, _⟩ := h
  have h1 := textS_len ((l.map sR).take i) (fun s hs => oks l s (List.mem_of_mem_take hs))
  have h2 := want_few ((l.map sR).take i)
  have h3 : ((l.map sR).take i).length ≤ i := by rw [List.length_take]; omega
  rw [toBA_size]
  omega
theorem SeedsAt.lt (h : SeedsAt l x (k + 1) T nw st ov) : 0 ≤ x ∧ x < (l.length : Int) := by
  obtain ⟨i, rfl, hk, _⟩ := h
  omega
theorem SeedsAt.at_end (h : SeedsAt l x 0 T nw st ov) : x = (l.length : Int) := by
  obtain ⟨i, rfl, hk, _⟩ := h
  omega
theorem up1 (i n : Nat) (h : i ≤ n) (hn : n ≤ 20) : wrap64 ((i : Int) + 1) = ((i + 1 : Nat) : Int) := by rw [w64 (by omega) (by omega)]; omega
theorem SeedsAt.step (h : SeedsAt l x (k + 1) T nw st ov) (hl : l.length ≤ 20) {nw' st' : Int} {ov' : Bool}
    (hw : ∀ P : List SeedR, P.length ≤ 20 → nw = ((wantS P).1.length : Int) → st = (wantS P).2.1 → ov = (wantS P).2.2 → nw' = ((wantS (P ++ [sR (rd_T23 l x)])).1.length : Int) ∧ st' = (wantS (P ++ [sR (rd_T23 l x)])).2.1 ∧ ov' = (wantS (P ++ [sR (rd_T23 l x)])).2.2) :
    SeedsAt l (wrap64 (x + 1)) k (T ++ toBA (sR (rd_T23 l x)).text) nw' st' ov' := by
  obtain ⟨i, rfl, hk, rfl, h1, h2, h3⟩ := h
  have ht := taken l i (by omega)
  obtain ⟨e1, e2, e3⟩ := hw _ (by rw [List.length_take]; omega) h1 h2 h3
  refine ⟨i + 1, up1 i l.length (by omega) hl, by omega, ?_, ?_, ?_, ?_⟩
  · rw [toBA_append, ht, textS_app, textS, textS, List.append_nil]
  · rw [ht]; exact e1
  · rw [ht]; exact e2
  · rw [ht]; exact e3
theorem SeedsAt.over (h : SeedsAt l x (k + 1) T nw st true) (hl : l.length ≤ 20) : SeedsAt l (wrap64 (x + 1)) k (T ++ toBA (sR (rd_T23 l x)).text) nw st true :=
  h.step hl (fun P _ h1 h2 h3 => by
    rw [want_snoc, if_pos h3.symm]
    exact ⟨h1, h2, h3⟩)
theorem SeedsAt.wrong (h : SeedsAt l x (k + 1) T nw st false) (hl : l.length ≤ 20) (hw : wrOf (rd_T23 l x).f6 ≠ 0) : SeedsAt l (wrap64 (x + 1)) k (T ++ toBA (sR (rd_T23 l x)).text) nw (wrongS (wrOf (rd_T23 l x).f6)) true :=
  h.step hl (fun P _ h1 h2 h3 => by
    rw [want_snoc, if_neg (by rw [← h3]; decide), if_pos (show (sR (rd_T23 l x)).wr ≠ 0 from hw)]
    exact ⟨h1, rfl, rfl⟩)
theorem SeedsAt.good (h : SeedsAt l x (k + 1) T nw st false) (hl : l.length ≤ 20) (hw : wrOf (rd_T23 l x).f6 = 0) : SeedsAt l (wrap64 (x + 1)) k (T ++ toBA (sR (rd_T23 l x)).text) (wrap64 (nw + 1)) st (rd_T23 l x).f5 :=
  h.step hl (fun P hP h1 h2 h3 => by
    have hf := want_few P
    rw [want_snoc, if_neg (by rw [← h3]; decide), if_neg (show ¬ (sR (rd_T23 l x)).wr ≠ 0 from fun hn => hn hw)]
    refine ⟨?_, ?_, rfl⟩
    · rw [h1, up1 _ P.length hf hP, List.length_append]; rfl
    · rw [h2]; exact want_st P h3.symm)
theorem SeedsAt.all (h : SeedsAt l x 0 T nw st ov) (hl : l.length ≤ 20) : Ev (fun k => cutter_All.f k T) ((wantS (l.map sR)).1.map SeedR.rq, st) ∧ nw = (((wantS (l.map sR)).1.map SeedR.rq).length : Int) := by
  obtain ⟨i, rfl, hk, rfl, rfl, rfl, _⟩ := h
  have hi : (l.map sR).take i = l.map sR := List.take_of_length_le (by rw [List.length_map]; omega)
  rw [hi]
  exact ⟨seeds_all (l.map sR) (oks l) (by rw [List.length_map]; exact hl), by rw [List.length_map]⟩
end
theorem seeds_at (l : List S23) (x : Int) (h0 : 0 ≤ x) (h1 : x < (((wantS (l.map sR)).1.map SeedR.rq).length : Int)) :
    x < (l.length : Int) ∧ rd_T31 ((wantS (l.map sR)).1.map SeedR.rq) x = (sR (rd_T23 l x)).rq := by
  obtain ⟨i, rfl⟩ : ∃ i : Nat, x = (i : Int) := ⟨x.toNat, by omega⟩
  rw [List.length_map] at h1
  have hi : i < (wantS (l.map sR)).1.length := by omega
  have hs := want_at (l.map sR) i _ (List.getElem?_eq_getElem hi)
  have hf := want_few (l.map sR)
  rw [List.length_map] at hf
  have hil : i < l.length := by omega
  refine ⟨by omega, ?_⟩
  rw [List.getElem?_map, List.getElem?_eq_getElem hil, Option.map_some] at hs
  have e : (wantS (l.map sR)).1[i] = sR l[i] := (Option.some.inj hs).symm
  simp only [rd_T31, rd_T23, Int.toNat_natCast, List.getD_eq_getElem?_getD, List.getElem?_map, List.getElem?_eq_getElem hi, List.getElem?_eq_getElem hil, Option.map_some, Option.getD_some, e]
theorem seeds_few (l : List S23) : ((wantS (l.map sR)).1.map SeedR.rq).length ≤ l.length := by
  have hf := want_few (l.map sR)
  rw [List.length_map] at hf ⊢
  exact hf
end Go.Proofs.YtldaingkcnmaoaaDoor.M
