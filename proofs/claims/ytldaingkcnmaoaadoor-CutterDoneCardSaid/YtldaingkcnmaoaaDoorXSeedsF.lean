-- Made smaller by wip/squeeze.py out of this claim's texts. Not trusted: Lean checks it.
import Derived.Test.YtldaingkcnmaoaaDoorXSeedsM
set_option linter.unusedVariables false
set_option linter.unusedSimpArgs false
namespace Go.Proofs.YtldaingkcnmaoaaDoor.M
open Go.RowKit Go.Proofs.YtldaingkcnmaoaaDoor.X Go.Proofs.YtldaingkcnmaoaaDoorW.PrintWords
def wrOf (a6 : Int) : Nat := wrN (bits .and .i64 a6 15).toNat
def sR (s : S23) : SeedR := ⟨(Int.tmod (bits .and .i64 s.f0 255) 6).toNat, (bits .and .i64 s.f1 15).toNat, (bits .and .i64 s.f2 7).toNat, (bits .and .i64 s.f3 3).toNat, (bits .and .i64 s.f4 3).toNat, s.f5, wrOf s.f6⟩
theorem wrN_lt (w : Nat) : wrN w < 4 := by
  unfold wrN
  split <;> omega
theorem sR_ok (s : S23) : (sR s).ok := by
  obtain ⟨mi, hmi, hm6⟩ := mod6_lt s.f0
  obtain ⟨ti, hti, ht16⟩ := and15_lt s.f1
  obtain ⟨bi, hbi, hb8⟩ := and7_lt s.f2
  obtain ⟨tk, htk, hk4⟩ := and3_lt s.f3
  obtain ⟨ch, hch, hc4⟩ := and3_lt s.f4
  unfold SeedR.ok sR
  rw [hmi, hti, hbi, htk, hch]
  simp only [Int.toNat_natCast]
  exact ⟨hm6, ht16, hk4, hc4, hb8, wrN_lt _⟩
theorem sR_text (s : S23) : Ev (fun k => crossroadlaw04_Seed_Text.f k s.f0 s.f1 s.f2 s.f3 s.f4 s.f5 s.f6) (toBA (sR s).text) := by
  obtain ⟨mi, hmi, hm6⟩ := mod6_lt s.f0
  obtain ⟨ti, hti, ht16⟩ := and15_lt s.f1
  obtain ⟨bi, hbi, hb8⟩ := and7_lt s.f2
  obtain ⟨tk, htk, hk4⟩ := and3_lt s.f3
  obtain ⟨ch, hch, hc4⟩ := and3_lt s.f4
  obtain ⟨wv, hwv, hw16⟩ := and15_lt s.f6
  have h := seedText_f s.f0 s.f1 s.f2 s.f3 s.f4 s.f6 s.f5 mi ti bi tk ch wv hmi hti hbi htk hch hwv hk4 hc4 hb8
  have e : (sR s).text = seedL mi ti bi tk ch s.f5 (wrN wv) := by
    unfold SeedR.text sR wrOf
    rw [hmi, hti, hbi, htk, hch, hwv]
    simp only [Int.toNat_natCast]
  rw [e]
  exact h
theorem sR_len (s : S23) : (sR s).text.length ≤ 5000 := by
  obtain ⟨h1, h2, h3, h4, h5, h6⟩ := sR_ok s
  exact seed_len _ _ _ _ _ _ _ h1 h2 h3 h4 h5 h6
theorem oks (l : List S23) : ∀ s ∈ l.map sR, s.ok := by
  intro s hs
  obtain ⟨x, _, rfl⟩ := List.mem_map.1 hs
  exact sR_ok x
theorem taken (l : List S23) (i : Nat) (h : i < l.length) : (l.map sR).take (i + 1) = (l.map sR).take i ++ [sR (rd_T23 l (i : Int))] := by
  rw [List.take_add_one, List.getElem?_map, List.getElem?_eq_getElem h]
  simp only [rd_T23, Int.toNat_natCast, List.getD_eq_getElem?_getD, List.getElem?_eq_getElem h, Option.map_some, Option.toList_some, Option.getD_some]
section
variable {w : World} {g t k : Nat} {c0 c1 c2 c3 c4 c5 c6 : Value}
theorem blk_set7 (h : w.heap[g]? = some (.cells #[c0, c1, c2, c3, c4, c5, c6] t (0, 0))) (a0 a1 a2 a3 a4 a5 a6 : Value) : (((((((w.setCell ⟨g, 0, none⟩ a0).setCell ⟨g, 1, none⟩ a1).setCell ⟨g, 2, none⟩ a2).setCell ⟨g, 3, none⟩ a3).setCell ⟨g, 4, none⟩ a4).setCell ⟨g, 5, none⟩ a5).setCell ⟨g, 6, none⟩ a6).heap[g]? = some (.cells #[a0, a1, a2, a3, a4, a5, a6] t (0, 0)) := by
  have := blk_set (blk_set (blk_set (blk_set (blk_set (blk_set (blk_set h 0 a0) 1 a1) 2 a2) 3 a3) 4 a4) 5 a5) 6 a6
  simpa using this
theorem blk_set5 (h : w.heap[g]? = some (.cells #[c0, c1, c2, c3, c4] t (0, 0))) (a0 a1 a2 a3 a4 : Value) : (((((w.setCell ⟨g, 0, none⟩ a0).setCell ⟨g, 1, none⟩ a1).setCell ⟨g, 2, none⟩ a2).setCell ⟨g, 3, none⟩ a3).setCell ⟨g, 4, none⟩ a4).heap[g]? = some (.cells #[a0, a1, a2, a3, a4] t (0, 0)) := by
  have := blk_set (blk_set (blk_set (blk_set (blk_set h 0 a0) 1 a1) 2 a2) 3 a3) 4 a4
  simpa using this
theorem below_set7 {B : Nat} {w0 : World} (h : Below B w0 w) (hg : B ≤ g) (a0 a1 a2 a3 a4 a5 a6 : Value) : Below B w0 (((((((w.setCell ⟨g, 0, none⟩ a0).setCell ⟨g, 1, none⟩ a1).setCell ⟨g, 2, none⟩ a2).setCell ⟨g, 3, none⟩ a3).setCell ⟨g, 4, none⟩ a4).setCell ⟨g, 5, none⟩ a5).setCell ⟨g, 6, none⟩ a6) :=
  ((((((h.setCell (p := ⟨g, 0, none⟩) hg a0).setCell (p := ⟨g, 1, none⟩) hg a1).setCell (p := ⟨g, 2, none⟩) hg a2).setCell (p := ⟨g, 3, none⟩) hg a3).setCell (p := ⟨g, 4, none⟩) hg a4).setCell (p := ⟨g, 5, none⟩) hg a5).setCell (p := ⟨g, 6, none⟩) hg a6
theorem below_set5 {B : Nat} {w0 : World} (h : Below B w0 w) (hg : B ≤ g) (a0 a1 a2 a3 a4 : Value) : Below B w0 (((((w.setCell ⟨g, 0, none⟩ a0).setCell ⟨g, 1, none⟩ a1).setCell ⟨g, 2, none⟩ a2).setCell ⟨g, 3, none⟩ a3).setCell ⟨g, 4, none⟩ a4) :=
  ((((h.setCell (p := ⟨g, 0, none⟩) hg a0).setCell (p := ⟨g, 1, none⟩) hg a1).setCell (p := ⟨g, 2, none⟩) hg a2).setCell (p := ⟨g, 3, none⟩) hg a3).setCell (p := ⟨g, 4, none⟩) hg a4
end
end Go.Proofs.YtldaingkcnmaoaaDoor.M
