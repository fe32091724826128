/- TableMany: as many routes as may be are taken, and no more. No condition. -/
import Derived.Test.YtidkhbkndbnnjaaDoorXRouteF
import Derived.Test.YtidkhbkndbnnjaaDoorXBits
import Derived.Test.YtidkhbkndbnnjaaDoorX16
set_option linter.unusedVariables false
set_option linter.unusedSimpArgs false
namespace Go.Proofs.YtidkhbkndbnnjaaDoor.Pure
open Go.RowKit Go.Proofs.YtidkhbkndbnnjaaDoor.X Go.Proofs.YtidkhbkndbnnjaaDoorW.PrintWords Go.Proofs.YtidkhbkndbnnjaaDoorW.PrintLast Go.Proofs.YtidkhbkndbnnjaaDoor.M

def manyR (i : Nat) : List UInt8 := [71, 69, 84, 32, 47, 114, UInt8.ofNat (97 + i / 26), UInt8.ofNat (97 + i % 26), 32, 103, 101, 116, 10]
def manyT (n : Nat) : List UInt8 := (List.range n).flatMap manyR
def manyOK (n : Nat) : Bool := if n > 24 then decide ((parseL (manyT n)).2 = 2) && decide ((parseL (manyT n)).1.length = 0) else decide ((parseL (manyT n)).2 = 0) && decide ((parseL (manyT n)).1.length = n)
theorem many_all : ∀ n : Fin 64, manyOK n.val = true := by decide +kernel
theorem many_len (n : Nat) : (manyT n).length = 13 * n := by
  induction n with
  | zero => rfl
  | succ n ih => rw [manyT, List.range_succ, List.flatMap_append, List.length_append]; rw [manyT] at ih; rw [ih]; simp [manyR]; omega
theorem many_snoc (n : Nat) : manyT (n + 1) = manyT n ++ manyR n := by rw [manyT, List.range_succ, List.flatMap_append]; simp [manyT]
theorem many_two (i : Nat) (hi : i ≤ 63) : strOfNums [(wrap64 (97 + wrap64 (Int.tdiv (i : Int) 26))) % 256, (wrap64 (97 + Int.tmod (i : Int) 26)) % 256] = toBA [UInt8.ofNat (97 + i / 26), UInt8.ofNat (97 + i % 26)] := by
  have e1 : Int.tdiv (i : Int) 26 = ((i / 26 : Nat) : Int) := by rw [Int.tdiv_eq_ediv_of_nonneg (by omega)]; omega
  have e2 : Int.tmod (i : Int) 26 = ((i % 26 : Nat) : Int) := by rw [Int.tmod_eq_emod_of_nonneg (by omega)]; omega
  rw [e1, e2, w64 (x := ((i / 26 : Nat) : Int)) (by omega) (by omega), w64 (by omega) (by omega), w64 (by omega) (by omega)]
  have h1 : (97 + ((i / 26 : Nat) : Int)) % 256 = ((UInt8.ofNat (97 + i / 26)).toNat : Int) := by simp only [UInt8.toNat_ofNat']; omega
  have h2 : (97 + ((i % 26 : Nat) : Int)) % 256 = ((UInt8.ofNat (97 + i % 26)).toNat : Int) := by simp only [UInt8.toNat_ofNat']; omega
  rw [h1, h2]
  exact strOfNums_nats [_, _]
theorem many_l0 (n : Nat) (hn : n < 64) (d : Nat) : ∀ i : Nat, i + d = n →
    Ev (fun k => crossroadlaw07_TableMany.l0 k (n : Int) (toBA (manyT i)) (n : Int) (i : Int)) true := by
  induction d with
  | zero =>
    intro i h
    obtain rfl : i = n := by omega
    have hlen := many_len i
    have ok := many_all ⟨i, hn⟩
    unfold manyOK at ok
    refine Ev.step' ?_
    simp only [crossroadlaw07_TableMany.l0, if_neg (show ¬ (i : Int) < (i : Int) by omega)]
    refine Ev.bind (parse_f (manyT i) (by omega)) ?_
    simp only [parT, List.length_map]
    by_cases h24 : i > 24
    · simp only [if_pos h24, Bool.and_eq_true, decide_eq_true_eq] at ok
      simp only [if_pos (show (i : Int) > 24 by omega), ok.1, if_true, ok.2]
      exact Ev.now true
    · simp only [if_neg h24, Bool.and_eq_true, decide_eq_true_eq] at ok
      simp only [if_neg (show ¬ (i : Int) > 24 by omega), ok.1, if_true, ok.2]
      exact Ev.const (by simp)
  | succ d ih =>
    intro i h
    have hlen := many_len i
    have hw : wrap64 ((i : Int) + 1) = ((i + 1 : Nat) : Int) := by rw [w64 (by omega) (by omega)]; simp
    have s1 : (⟨#[71, 69, 84, 32, 47, 114]⟩ : ByteArray) = toBA [71, 69, 84, 32, 47, 114] := rfl
    have s2 : (⟨#[32, 103, 101, 116, 10]⟩ : ByteArray) = toBA [32, 103, 101, 116, 10] := rfl
    have key := ih (i + 1) (by omega)
    rw [many_snoc] at key
    refine Ev.step' ?_
    simp only [crossroadlaw07_TableMany.l0, if_pos (show (i : Int) < (n : Int) by omega), Option.bind_some, many_two i (by omega), s1, s2, toBA_append, toBA_size, List.length_append, List.length_cons, List.length_nil, hw]
    simp only [if_pos (show 6 + (0 + 1 + 1) ≤ 9223372036854775807 by omega), if_pos (show 0 + 1 + 1 + 1 + 1 + 1 + 1 + (0 + 1 + 1) + 5 ≤ 9223372036854775807 by omega), if_pos (show (manyT i).length + (0 + 1 + 1 + 1 + 1 + 1 + 1 + (0 + 1 + 1) + (0 + 1 + 1 + 1 + 1 + 1)) ≤ 9223372036854775807 by omega)]
    exact key
theorem TableMany : crossroadlaw07_TableMany.Pure := by
  intro a0 _
  refine Ev.rounds (g := fun k => crossroadlaw07_TableMany.f k a0) ?_
  simp only [crossroadlaw07_TableMany.f]
  refine Ev.bind fit_f ?_
  simp only [if_true, i64_and63]
  obtain ⟨n, hn⟩ : ∃ n : Nat, (n : Int) = a0 % 64 := ⟨(a0 % 64).toNat, by omega⟩
  rw [← hn]
  exact many_l0 n (by omega) n 0 (by omega)
end Go.Proofs.YtidkhbkndbnnjaaDoor.Pure
