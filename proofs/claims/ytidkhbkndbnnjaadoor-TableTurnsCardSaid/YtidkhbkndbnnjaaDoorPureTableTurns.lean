/- TableTurns: the order of routes plays no part in whether they may stand beside one another. No condition. -/
import Derived.Test.YtidkhbkndbnnjaaDoorXRouteF
import Derived.Test.YtidkhbkndbnnjaaDoorXBits
import Derived.Test.YtidkhbkndbnnjaaDoorX18
set_option linter.unusedVariables false
set_option linter.unusedSimpArgs false
namespace Go.Proofs.YtidkhbkndbnnjaaDoor.Pure
open Go.RowKit Go.Proofs.YtidkhbkndbnnjaaDoor.X Go.Proofs.YtidkhbkndbnnjaaDoorW.PrintWords Go.Proofs.YtidkhbkndbnnjaaDoorW.PrintLast Go.Proofs.YtidkhbkndbnnjaaDoor.M

theorem clash_nodup (l : List R3) : ∀ seen, clashGo seen l = if (l.map keyL).Nodup ∧ ∀ r ∈ l, keyL r ∉ seen then 0 else 3 := by
  induction l with
  | nil => intro seen; simp [clashGo]
  | cons r q ih =>
    intro seen
    rw [clashGo]
    by_cases h : keyL r ∈ seen
    · rw [if_pos h, if_neg (fun hh => hh.2 r (by simp) h)]
    · rw [if_neg h, ih]
      congr 1
      rw [eq_iff_iff, List.map_cons, List.nodup_cons]
      constructor
      · rintro ⟨h1, h2⟩
        refine ⟨⟨fun hm => ?_, h1⟩, fun z hz => ?_⟩
        · obtain ⟨z, hz, e⟩ := List.mem_map.1 hm
          exact h2 z hz (by rw [e]; simp)
        · rcases List.mem_cons.1 hz with rfl | hz
          · exact h
          · exact fun hs => h2 z hz (by simp [hs])
      · rintro ⟨⟨h0, h1⟩, h2⟩
        refine ⟨h1, fun z hz hm => ?_⟩
        rcases List.mem_cons.1 hm with e | hm
        · exact h0 (List.mem_map.2 ⟨z, hz, e⟩)
        · exact h2 z (by simp [hz]) hm
theorem check_perm {l m : List R3} (h : l.Perm m) : checkL l = checkL m := by
  have e1 : l.all rightL = m.all rightL := by
    rw [Bool.eq_iff_iff, List.all_eq_true, List.all_eq_true]
    exact ⟨fun k x hx => k x (h.mem_iff.2 hx), fun k x hx => k x (h.mem_iff.1 hx)⟩
  unfold checkL
  rw [e1, h.length_eq, clash_nodup, clash_nodup]
  have e2 : ((l.map keyL).Nodup ∧ ∀ r ∈ l, keyL r ∉ ([] : List (List UInt8 × List UInt8))) ↔ ((m.map keyL).Nodup ∧ ∀ r ∈ m, keyL r ∉ ([] : List (List UInt8 × List UInt8))) := by
    simp [(h.map keyL).nodup_iff]
  simp only [e2]
theorem TableTurns (l0 : List S27) (a1 : Int) (hz : l0.length * Tryd.prog.bytesOf 27 ≤ 140737488351232 ∧ ∀ x ∈ l0, x.f0.size ≤ 140737488351232 ∧ x.f1.size ≤ 140737488351232 ∧ x.f2.size ≤ 140737488351232) (_ : (Lit.int .i64 a1).wf = true) : ∃ k, crossroadlaw07_TableTurns.f k l0 a1 = some true := by
  obtain ⟨l, rfl⟩ := exRs l0
  have hb : Tryd.prog.bytesOf 27 = 48 := by kernel_rfl
  have hlen := hz.1
  rw [hb, List.length_map] at hlen
  have hfit : ∀ r ∈ l, Fits r := fun r hr => by
    have := hz.2 (rT r) (List.mem_map_of_mem hr)
    simpa [rT, Fits] using this
  refine Ev.rounds (g := fun k => crossroadlaw07_TableTurns.f k (l.map rT) a1) ?_
  simp only [crossroadlaw07_TableTurns.f, List.length_map]
  refine Ev.bind fit_f ?_
  simp only [if_true]
  refine Ev.bind (light_f l (by omega)) ?_
  have out : Ev (fun k => crossroadlaw07_TableTurns.j0 k (l.map rT) a1 true) true := by
    refine Ev.step' ?_
    simp only [crossroadlaw07_TableTurns.j0, if_true]
    exact Ev.now true
  cases hli : lightL l with
  | false => simp only [Bool.false_eq_true, if_false]; exact out
  | true =>
    obtain ⟨h60, h4000⟩ := light_small l hfit hli
    have hs : ∀ r ∈ l, Small r := fun r hr => small_of r (h4000 r hr)
    simp only [if_true]
    by_cases h0 : l.length = 0
    · have e : ((l.length : Int) == 0) = true := by rw [h0]; rfl
      rw [e]; exact out
    · have e : ((l.length : Int) == 0) = false := beq_eq_false_iff_ne.2 (by omega)
      rw [e]
      obtain ⟨t, ht⟩ : ∃ t : Nat, (t : Int) = Int.tmod (a1 % 65536) (l.length : Int) := by
        rw [Int.tmod_eq_emod_of_nonneg (by omega)]
        exact ⟨((a1 % 65536) % (l.length : Int)).toNat, Int.toNat_of_nonneg (Int.emod_nonneg _ (by omega))⟩
      have htl : t < l.length := by
        have : Int.tmod (a1 % 65536) (l.length : Int) < (l.length : Int) := by
          rw [Int.tmod_eq_emod_of_nonneg (by omega)]; exact Int.emod_lt_of_pos _ (by omega)
        omega
      refine Ev.step' ?_
      simp only [crossroadlaw07_TableTurns.j0, Bool.false_eq_true, if_false, List.length_map, if_neg (show ¬ (l.length : Int) = 0 by omega), i64_and65535, ← ht, if_pos (show (0 : Int) ≤ (t : Int) by omega), if_pos (show (t : Int) ≤ (l.length : Int) by omega), Option.bind_some, Int.toNat_natCast, ← List.map_drop, ← List.map_take, List.nil_append, List.length_nil, List.length_drop, List.length_take]
      simp only [if_pos (show 0 + (l.length - t) < 2932031007402 by omega), if_pos (show l.length - t + min t l.length < 2932031007402 by omega)]
      refine Ev.bind (check_f l (by omega) hs) ?_
      rw [← List.map_append]
      have hp : (l.drop t ++ l.take t).Perm l := List.perm_append_comm.trans (by rw [List.take_append_drop])
      refine Ev.bind (check_f (l.drop t ++ l.take t) (by simp; omega) (fun r hr => hs r (hp.mem_iff.1 hr))) ?_
      rw [check_perm hp]
      exact Ev.const (by simp)
end Go.Proofs.YtidkhbkndbnnjaaDoor.Pure
