/- CutterBlank: empty lines ahead of a request play no part. No condition. -/
import Derived.Test.YtldaingkcnmaoaaDoorXLinesM
import Derived.Test.YtldaingkcnmaoaaDoorXSeedAll
import Derived.Test.YtldaingkcnmaoaaDoorX22
set_option linter.unusedVariables false
set_option linter.unusedSimpArgs false
namespace Go.Proofs.YtldaingkcnmaoaaDoor.Pure
open Go.RowKit Go.Proofs.YtldaingkcnmaoaaDoor.X Go.Proofs.YtldaingkcnmaoaaDoorW.PrintWords Go.Proofs.YtldaingkcnmaoaaDoorW.PrintLast Go.Proofs.YtldaingkcnmaoaaDoor.M

theorem blank_all (i mi ti bi tk ch : Nat) (cl : Bool) (hi : i ≤ 127) (hm : mi < 6) (ht : ti < 16) (hk : tk < 4) (hc : ch < 4) (hb : bi < 8) :
    Ev (fun k => cutter_All.f k (toBA (blankT i ++ seedL mi ti bi tk ch cl 0))) ([reqOf (headS mi ti tk cl ch bi) (bL bi)], 0) := by
  have hl := seed_len mi ti bi tk ch cl 0 hm ht hk hc hb (by omega)
  have hbl := blank_len i
  have h := cut_all_f (blankT i ++ seedL mi ti bi tk ch cl 0) (by simp only [List.length_append]; omega)
  obtain ⟨c2, h1, h2, h3⟩ := seed_good newC [] [] mi ti bi tk ch cl hm ht hk hc hb
  rw [List.append_nil] at h1
  rw [new_hs, run_blanks, h1] at h
  have hs : c2.status = 0 := by
    cases cl with
    | false => obtain ⟨c', rfl⟩ := h2 rfl; rfl
    | true => exact (h3 rfl).2
  simp only [runM, hs] at h
  exact h
theorem fields_few (mi ti bi tk ch : Nat) (cl : Bool) (hk4 : tk < 4) (hc4 : ch < 4) (hb8 : bi < 8) : (reqOf (headS mi ti tk cl ch bi) (bL bi)).f2.length ≤ 1000000 := by
  show ((fsOf tk cl 0 ch bi).map fT).length ≤ 1000000
  have hlf : (fsOf tk cl 0 ch bi).length ≤ 16 := by
    have h2 := rest_ok ⟨tk, hk4⟩ cl ⟨0, by decide⟩ ⟨ch, hc4⟩ ⟨bi, hb8⟩
    unfold restB at h2
    simp only [Bool.and_eq_true, decide_eq_true_eq] at h2
    obtain ⟨⟨_, h16⟩, _⟩ := h2
    unfold fsOf
    cases hf : fieldsL (lRest tk cl 0 ch bi) with
    | none => simp
    | some fs => rw [Option.getD_some, fieldsL_len _ _ hf]; exact h16
  rw [List.length_map]
  exact Nat.le_trans hlf (by decide)
theorem blank_l0 (a0 a1 a2 a3 a4 : Int) (cl : Bool) (n : Nat) (L : List UInt8) (q : Rq) (hn : n ≤ 127) (hl : L.length ≤ 5000) (hq : q.f2.length ≤ 1000000) (hs : Ev (fun k => crossroadlaw04_Seed_Text.f k a0 a1 a2 a3 a4 cl 0) (toBA L)) (hA : Ev (fun k => cutter_All.f k (toBA (blankT n ++ L))) ([q], 0)) (hB : Ev (fun k => cutter_All.f k (toBA L)) ([q], 0)) :
    ∀ (d i : Nat), i + d = n → Ev (fun k => crossroadlaw04_CutterBlank.l0 k (toBA (blankT i)) (n : Int) (i : Int) a0 a1 a2 a3 a4 cl 0) true := by
  intro d
  induction d with
  | zero =>
    intro i hi
    have hi' : i = n := by omega
    subst hi'
    have hbl := blank_len i
    refine Ev.step' ?_
    simp only [crossroadlaw04_CutterBlank.l0, if_neg (show ¬ (i : Int) < (i : Int) by omega)]
    refine Ev.bind hs ?_
    simp only [toBA_size, toBA_append, if_pos (show (blankT i).length + L.length ≤ 9223372036854775807 by omega)]
    refine Ev.bind hA ?_
    refine Ev.bind hs ?_
    refine Ev.bind hB ?_
    refine Ev.bind (same_f q hq) ?_
    exact Ev.const rfl
  | succ d ih =>
    intro i hi
    have c2 : (⟨#[13, 10]⟩ : ByteArray) = toBA [13, 10] := rfl
    have hw : wrap64 ((i : Int) + 1) = ((i + 1 : Nat) : Int) := by rw [w64 (by omega) (by omega)]; omega
    have hbl := blank_len i
    refine Ev.step' ?_
    simp only [crossroadlaw04_CutterBlank.l0, if_pos (show (i : Int) < (n : Int) by omega), toBA_size, hbl, if_pos (show 2 * i + 2 ≤ 9223372036854775807 by omega), c2, toBA_append, blank_snoc, hw]
    exact ih (i + 1) (by omega)
theorem blank_f (a0 a1 a2 a3 a4 : Int) (cl : Bool) (a6 x : Int) : Ev (fun k => crossroadlaw04_CutterBlank.f k a0 a1 a2 a3 a4 cl a6 x) true := by
  obtain ⟨n, hn, hn2⟩ : ∃ n : Nat, bits .and .i64 x 127 = (n : Int) ∧ n ≤ 127 := by
    rw [i64_and127]
    exact ⟨(x % 128).toNat, by omega, by omega⟩
  obtain ⟨mi, hmi, hm6⟩ := mod6_lt a0
  obtain ⟨ti, hti, ht16⟩ := and15_lt a1
  obtain ⟨bi, hbi, hb8⟩ := and7_lt a2
  obtain ⟨tk, htk, hk4⟩ := and3_lt a3
  obtain ⟨ch, hch, hc4⟩ := and3_lt a4
  have hs := seedText_f a0 a1 a2 a3 a4 0 cl mi ti bi tk ch 0 hmi hti hbi htk hch and_zero15 hk4 hc4 hb8
  clear hmi hti hbi htk hch
  have hl := seed_len mi ti bi tk ch cl 0 hm6 ht16 hk4 hc4 hb8 (by decide)
  have hA := blank_all n mi ti bi tk ch cl hn2 hm6 ht16 hk4 hc4 hb8
  have hB := seed_all mi ti bi tk ch cl hm6 ht16 hk4 hc4 hb8
  have hq := fields_few mi ti bi tk ch cl hk4 hc4 hb8
  simp only [crossroadlaw04_CutterBlank.f]
  refine Ev.bind cut_fit_f ?_
  simp only [if_true, hn]
  exact blank_l0 a0 a1 a2 a3 a4 cl n _ _ hn2 hl hq hs hA hB n 0 (Nat.zero_add n)
theorem blank_walk (a0_0 a0_1 a0_2 a0_3 a0_4 : Int) (a0_5 : Bool) (a0_6 : Int) (a1 : Int) (w : World) (hG : GlobOK w) :
    Calls Tryd.prog 7 #[.agg #[.int .i64 a0_0, .int .i64 a0_1, .int .i64 a0_2, .int .i64 a0_3, .int .i64 a0_4, .bool a0_5, .int .i64 a0_6], .int .i64 a1] w fun e w' => e = .returned (.bool true) ∧ Below w.heap.size w w' := by
  obtain ⟨K, hK⟩ := ev_get (blank_f a0_0 a0_1 a0_2 a0_3 a0_4 a0_5 a0_6 a1)
  exact crossroadlaw04_CutterBlank.calls K a0_0 a0_1 a0_2 a0_3 a0_4 a0_5 a0_6 a1 true w hK hG
end Go.Proofs.YtldaingkcnmaoaaDoor.Pure
