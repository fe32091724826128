-- Written for this claim by a program of this session (wip/xprint.py). Not trusted: Lean checks it.
import Derived.Test.YtidkhbkndbnnjaaDoorX0
namespace Go.Proofs.YtidkhbkndbnnjaaDoor.X
open Go.RowKit Go.Proofs.YtidkhbkndbnnjaaDoorW.PrintWords Go.Proofs.YtidkhbkndbnnjaaDoorW.PrintLast Go.Proofs.YtidkhbkndbnnjaaDoorW.PrintMore
attribute [local go_sem] max2_int min2_int max_two min_two max_three min_three max_four min_four   -- for this text's walks alone
set_option linter.unusedVariables false
set_option linter.unusedSimpArgs false

/-! ### table_Handler: function 13 -/
def hlists : List (List UInt8) := [[103, 101, 116], [112, 117, 116], [100, 101, 108, 101, 116, 101], [108, 105, 115, 116], [119, 97, 108, 107], [104, 101, 97, 108, 116, 104], [114, 101, 108, 111, 97, 100], [115, 104, 117, 116, 100, 111, 119, 110]]
/-- The table of handlers' names stands in block 0. -/
def GlobOK (w : World) : Prop := ∀ (i : Nat) (l : List UInt8), hlists[i]? = some l → w.cell? ⟨0, i, none⟩ = some (.string ⟨l.toArray⟩)
theorem GlobOK.below {B : Nat} {w w' : World} (h : GlobOK w) (hb : Below B w w') (hB : B = w.heap.size) : GlobOK w' := fun i s hs => by
  subst hB
  exact pw_cell_below hb (h i s hs)
def table_Handler.f (a0 : ByteArray) : Option Bool := some (hlists.any fun h => h == a0.toList)
theorem handler_ix0 (W : World) : (Instr.index 48 (.agg #[.string ⟨#[103, 101, 116]⟩, .string ⟨#[112, 117, 116]⟩, .string ⟨#[100, 101, 108, 101, 116, 101]⟩, .string ⟨#[108, 105, 115, 116]⟩, .string ⟨#[119, 97, 108, 107]⟩, .string ⟨#[104, 101, 97, 108, 116, 104]⟩, .string ⟨#[114, 101, 108, 111, 97, 100]⟩, .string ⟨#[115, 104, 117, 116, 100, 111, 119, 110]⟩]) (.int .i64 0)).run Tryd.prog W = .ok (.string ⟨#[103, 101, 116]⟩) W := by kernel_rfl
theorem handler_ix1 (W : World) : (Instr.index 48 (.agg #[.string ⟨#[103, 101, 116]⟩, .string ⟨#[112, 117, 116]⟩, .string ⟨#[100, 101, 108, 101, 116, 101]⟩, .string ⟨#[108, 105, 115, 116]⟩, .string ⟨#[119, 97, 108, 107]⟩, .string ⟨#[104, 101, 97, 108, 116, 104]⟩, .string ⟨#[114, 101, 108, 111, 97, 100]⟩, .string ⟨#[115, 104, 117, 116, 100, 111, 119, 110]⟩]) (.int .i64 1)).run Tryd.prog W = .ok (.string ⟨#[112, 117, 116]⟩) W := by kernel_rfl
theorem handler_ix2 (W : World) : (Instr.index 48 (.agg #[.string ⟨#[103, 101, 116]⟩, .string ⟨#[112, 117, 116]⟩, .string ⟨#[100, 101, 108, 101, 116, 101]⟩, .string ⟨#[108, 105, 115, 116]⟩, .string ⟨#[119, 97, 108, 107]⟩, .string ⟨#[104, 101, 97, 108, 116, 104]⟩, .string ⟨#[114, 101, 108, 111, 97, 100]⟩, .string ⟨#[115, 104, 117, 116, 100, 111, 119, 110]⟩]) (.int .i64 2)).run Tryd.prog W = .ok (.string ⟨#[100, 101, 108, 101, 116, 101]⟩) W := by kernel_rfl
theorem handler_ix3 (W : World) : (Instr.index 48 (.agg #[.string ⟨#[103, 101, 116]⟩, .string ⟨#[112, 117, 116]⟩, .string ⟨#[100, 101, 108, 101, 116, 101]⟩, .string ⟨#[108, 105, 115, 116]⟩, .string ⟨#[119, 97, 108, 107]⟩, .string ⟨#[104, 101, 97, 108, 116, 104]⟩, .string ⟨#[114, 101, 108, 111, 97, 100]⟩, .string ⟨#[115, 104, 117, 116, 100, 111, 119, 110]⟩]) (.int .i64 3)).run Tryd.prog W = .ok (.string ⟨#[108, 105, 115, 116]⟩) W := by kernel_rfl
theorem handler_ix4 (W : World) : (Instr.index 48 (.agg #[.string ⟨#[103, 101, 116]⟩, .string ⟨#[112, 117, 116]⟩, .string ⟨#[100, 101, 108, 101, 116, 101]⟩, .string ⟨#[108, 105, 115, 116]⟩, .string ⟨#[119, 97, 108, 107]⟩, .string ⟨#[104, 101, 97, 108, 116, 104]⟩, .string ⟨#[114, 101, 108, 111, 97, 100]⟩, .string ⟨#[115, 104, 117, 116, 100, 111, 119, 110]⟩]) (.int .i64 4)).run Tryd.prog W = .ok (.string ⟨#[119, 97, 108, 107]⟩) W := by kernel_rfl
theorem handler_ix5 (W : World) : (Instr.index 48 (.agg #[.string ⟨#[103, 101, 116]⟩, .string ⟨#[112, 117, 116]⟩, .string ⟨#[100, 101, 108, 101, 116, 101]⟩, .string ⟨#[108, 105, 115, 116]⟩, .string ⟨#[119, 97, 108, 107]⟩, .string ⟨#[104, 101, 97, 108, 116, 104]⟩, .string ⟨#[114, 101, 108, 111, 97, 100]⟩, .string ⟨#[115, 104, 117, 116, 100, 111, 119, 110]⟩]) (.int .i64 5)).run Tryd.prog W = .ok (.string ⟨#[104, 101, 97, 108, 116, 104]⟩) W := by kernel_rfl
theorem handler_ix6 (W : World) : (Instr.index 48 (.agg #[.string ⟨#[103, 101, 116]⟩, .string ⟨#[112, 117, 116]⟩, .string ⟨#[100, 101, 108, 101, 116, 101]⟩, .string ⟨#[108, 105, 115, 116]⟩, .string ⟨#[119, 97, 108, 107]⟩, .string ⟨#[104, 101, 97, 108, 116, 104]⟩, .string ⟨#[114, 101, 108, 111, 97, 100]⟩, .string ⟨#[115, 104, 117, 116, 100, 111, 119, 110]⟩]) (.int .i64 6)).run Tryd.prog W = .ok (.string ⟨#[114, 101, 108, 111, 97, 100]⟩) W := by kernel_rfl
theorem handler_ix7 (W : World) : (Instr.index 48 (.agg #[.string ⟨#[103, 101, 116]⟩, .string ⟨#[112, 117, 116]⟩, .string ⟨#[100, 101, 108, 101, 116, 101]⟩, .string ⟨#[108, 105, 115, 116]⟩, .string ⟨#[119, 97, 108, 107]⟩, .string ⟨#[104, 101, 97, 108, 116, 104]⟩, .string ⟨#[114, 101, 108, 111, 97, 100]⟩, .string ⟨#[115, 104, 117, 116, 100, 111, 119, 110]⟩]) (.int .i64 7)).run Tryd.prog W = .ok (.string ⟨#[115, 104, 117, 116, 100, 111, 119, 110]⟩) W := by kernel_rfl
theorem handler_step {s : List UInt8} {k : Nat} {l : List UInt8} (h : ((hlists.take k).any fun h => h == s) = false) (hl : hlists[k]? = some l) (e : (l == s) = false) : ((hlists.take (k + 1)).any fun h => h == s) = false := by
  have : hlists.take (k + 1) = hlists.take k ++ [l] := by
    rw [List.take_add_one, hl]; rfl
  rw [this, List.any_append, h]; simp [e]
theorem handler_hit {s : List UInt8} {k : Nat} {l : List UInt8} (hl : hlists[k]? = some l) (e : (l == s) = true) : (hlists.any fun h => h == s) = true :=
  List.any_eq_true.2 ⟨l, List.mem_of_getElem? hl, e⟩
set_option maxHeartbeats 1000000 in
set_option maxRecDepth 100000 in
theorem table_Handler.calls (a0 : ByteArray) (r : Bool) (w : World) (h : table_Handler.f a0 = some r) (hG : GlobOK w) :
    Calls Tryd.prog 13 #[.string a0] w fun e w' => e = .returned (.bool r) ∧ Drawn0 w w' := by
  have HR := Lib.hid (Option.some.inj h)
  clear h
  have h0 := hG 0 _ rfl
  have h1 := hG 1 _ rfl
  have h2 := hG 2 _ rfl
  have h3 := hG 3 _ rfl
  have h4 := hG 4 _ rfl
  have h5 := hG 5 _ rfl
  have h6 := hG 6 _ rfl
  have h7 := hG 7 _ rfl
  clear hG
  go_enter Tryd.func13, Tryd.ntmps13
  go_wp2
  go_loop [6] (fun i => ∃ k : Nat, k ≤ 8 ∧ i = .int .i64 k ∧ Hid (((hlists.take k).any fun h => h == a0.toList) = false)) (fun i => 8 - (intOf i).toNat)
  case atStart => exact ⟨0, by omega, rfl, Lib.hid rfl⟩
  case round =>
    obtain ⟨k, hk, rfl, HN⟩ := hrel
    clear h0 h1 h2 h3 h4 h5 h6 h7
    have hcases : k = 0 ∨ k = 1 ∨ k = 2 ∨ k = 3 ∨ k = 4 ∨ k = 5 ∨ k = 6 ∨ k = 7 ∨ k = 8 := by omega
    clear hk
    rcases hcases with rfl | rfl | rfl | rfl | rfl | rfl | rfl | rfl | rfl
    · have hx := handler_ix0
      by_cases e : ([103, 101, 116] == a0.toList) = true
      · have HE := Lib.hid (HR.out.symm.trans (handler_hit (k := 0) rfl e))
        go_wp2
        go_ret
        exact ⟨by rw [HE.out]; rfl, Drawn0.refl _⟩
      · replace e : ([103, 101, 116] == a0.toList) = false := by simpa using e
        have HE := Lib.hid (handler_step (k := 0) HN.out rfl e)
        go_wp2
        go_round
        case rel => exact ⟨1, by omega, rfl, HE⟩
        case measure => decide
    · have hx := handler_ix1
      by_cases e : ([112, 117, 116] == a0.toList) = true
      · have HE := Lib.hid (HR.out.symm.trans (handler_hit (k := 1) rfl e))
        go_wp2
        go_ret
        exact ⟨by rw [HE.out]; rfl, Drawn0.refl _⟩
      · replace e : ([112, 117, 116] == a0.toList) = false := by simpa using e
        have HE := Lib.hid (handler_step (k := 1) HN.out rfl e)
        go_wp2
        go_round
        case rel => exact ⟨2, by omega, rfl, HE⟩
        case measure => decide
    · have hx := handler_ix2
      by_cases e : ([100, 101, 108, 101, 116, 101] == a0.toList) = true
      · have HE := Lib.hid (HR.out.symm.trans (handler_hit (k := 2) rfl e))
        go_wp2
        go_ret
        exact ⟨by rw [HE.out]; rfl, Drawn0.refl _⟩
      · replace e : ([100, 101, 108, 101, 116, 101] == a0.toList) = false := by simpa using e
        have HE := Lib.hid (handler_step (k := 2) HN.out rfl e)
        go_wp2
        go_round
        case rel => exact ⟨3, by omega, rfl, HE⟩
        case measure => decide
    · have hx := handler_ix3
      by_cases e : ([108, 105, 115, 116] == a0.toList) = true
      · have HE := Lib.hid (HR.out.symm.trans (handler_hit (k := 3) rfl e))
        go_wp2
        go_ret
        exact ⟨by rw [HE.out]; rfl, Drawn0.refl _⟩
      · replace e : ([108, 105, 115, 116] == a0.toList) = false := by simpa using e
        have HE := Lib.hid (handler_step (k := 3) HN.out rfl e)
        go_wp2
        go_round
        case rel => exact ⟨4, by omega, rfl, HE⟩
        case measure => decide
    · have hx := handler_ix4
      by_cases e : ([119, 97, 108, 107] == a0.toList) = true
      · have HE := Lib.hid (HR.out.symm.trans (handler_hit (k := 4) rfl e))
        go_wp2
        go_ret
        exact ⟨by rw [HE.out]; rfl, Drawn0.refl _⟩
      · replace e : ([119, 97, 108, 107] == a0.toList) = false := by simpa using e
        have HE := Lib.hid (handler_step (k := 4) HN.out rfl e)
        go_wp2
        go_round
        case rel => exact ⟨5, by omega, rfl, HE⟩
        case measure => decide
    · have hx := handler_ix5
      by_cases e : ([104, 101, 97, 108, 116, 104] == a0.toList) = true
      · have HE := Lib.hid (HR.out.symm.trans (handler_hit (k := 5) rfl e))
        go_wp2
        go_ret
        exact ⟨by rw [HE.out]; rfl, Drawn0.refl _⟩
      · replace e : ([104, 101, 97, 108, 116, 104] == a0.toList) = false := by simpa using e
        have HE := Lib.hid (handler_step (k := 5) HN.out rfl e)
        go_wp2
        go_round
        case rel => exact ⟨6, by omega, rfl, HE⟩
        case measure => decide
    · have hx := handler_ix6
      by_cases e : ([114, 101, 108, 111, 97, 100] == a0.toList) = true
      · have HE := Lib.hid (HR.out.symm.trans (handler_hit (k := 6) rfl e))
        go_wp2
        go_ret
        exact ⟨by rw [HE.out]; rfl, Drawn0.refl _⟩
      · replace e : ([114, 101, 108, 111, 97, 100] == a0.toList) = false := by simpa using e
        have HE := Lib.hid (handler_step (k := 6) HN.out rfl e)
        go_wp2
        go_round
        case rel => exact ⟨7, by omega, rfl, HE⟩
        case measure => decide
    · have hx := handler_ix7
      by_cases e : ([115, 104, 117, 116, 100, 111, 119, 110] == a0.toList) = true
      · have HE := Lib.hid (HR.out.symm.trans (handler_hit (k := 7) rfl e))
        go_wp2
        go_ret
        exact ⟨by rw [HE.out]; rfl, Drawn0.refl _⟩
      · replace e : ([115, 104, 117, 116, 100, 111, 119, 110] == a0.toList) = false := by simpa using e
        have HE := Lib.hid (handler_step (k := 7) HN.out rfl e)
        go_wp2
        go_round
        case rel => exact ⟨8, by omega, rfl, HE⟩
        case measure => decide
    · go_wp2
      go_ret
      exact ⟨by rw [← HR.out]; exact congrArg (fun b => Ending.returned (Value.bool b)) HN.out.symm, Drawn0.refl _⟩

end Go.Proofs.YtidkhbkndbnnjaaDoor.X
