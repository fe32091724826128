-- Made smaller by wip/squeeze.py out of this claim's texts. Not trusted: Lean checks it.
import Derived.Test.YtldaingkcnmaoaaDoorX13
import Derived.Test.YtldaingkcnmaoaaDoorX15
namespace Go.Proofs.YtldaingkcnmaoaaDoor.X
open Go.RowKit Go.Proofs.YtldaingkcnmaoaaDoorW.PrintWords Go.Proofs.YtldaingkcnmaoaaDoorW.PrintLast Go.Proofs.YtldaingkcnmaoaaDoorW.PrintMore
attribute [local go_sem] max2_int min2_int max_two min_two max_three min_three max_four min_four
set_option linter.unusedVariables false
set_option linter.unusedSimpArgs false
mutual
def head_Parse.j0 : Nat → List ByteArray → List ByteArray → Bool → Option (ByteArray × ByteArray × (List (S62)) × ByteArray × Bool × Int × Int)
 | 0, _, _, _ => none
 | k + 1, x0, x3, x17 => if x17 = true then ((head_bad.f 431).bind fun bt199 => (some (bt199.1, bt199.2.1, bt199.2.2.1, bt199.2.2.2.1, bt199.2.2.2.2.1, bt199.2.2.2.2.2.1, bt199.2.2.2.2.2.2))) else (if (x3.length : Int) = 3 then (if 0 < (x3.length : Int) then ((ascii_Token.f k (rdOf ByteArray.empty x3 0)).bind fun t209 => (if t209 = true then (if 1 < (x3.length : Int) then (if (rdOf ByteArray.empty x3 1).toList = ([] : List UInt8) then (head_Parse.j1 k x0 x3 true) else (if 0 < ((rdOf ByteArray.empty x3 1).size : Int) then (if (bt (rdOf ByteArray.empty x3 1) 0) = 47 then ((ascii_Value.f (rdOf ByteArray.empty x3 1)).bind fun t213 => (head_Parse.j1 k x0 x3 (!t213))) else (head_Parse.j1 k x0 x3 true)) else (none))) else (none)) else (head_Parse.j1 k x0 x3 true))) else (none)) else (head_Parse.j1 k x0 x3 true))
def head_Parse.j1 : Nat → List ByteArray → List ByteArray → Bool → Option (ByteArray × ByteArray × (List (S62)) × ByteArray × Bool × Int × Int)
 | 0, _, _, _ => none
 | k + 1, x0, x3, x30 => if x30 = true then ((head_bad.f 400).bind fun bt214 => (some (bt214.1, bt214.2.1, bt214.2.2.1, bt214.2.2.2.1, bt214.2.2.2.2.1, bt214.2.2.2.2.2.1, bt214.2.2.2.2.2.2))) else (if 2 < (x3.length : Int) then (if (rdOf ByteArray.empty x3 2).toList = ([72, 84, 84, 80, 47, 49, 46, 49] : List UInt8) then (if 0 < (x3.length : Int) then (if 1 < (x3.length : Int) then (if 1 ≤ (x0.length : Int) then ((some (x0.drop 1 : List ByteArray)).bind fun y237 => (head_Parse.l0 k y237 (y237.length : Int) 0 (rdOf ByteArray.empty x3 0) (rdOf ByteArray.empty x3 1) ([] : List (S62)) (⟨#[]⟩ : ByteArray) false 0 0)) else (none)) else (none)) else (none)) else ((head_bad.f 400).bind fun bt224 => (some (bt224.1, bt224.2.1, bt224.2.2.1, bt224.2.2.2.1, bt224.2.2.2.2.1, bt224.2.2.2.2.2.1, bt224.2.2.2.2.2.2)))) else (none))
def head_Parse.l0 : Nat → List ByteArray → Int → Int → ByteArray → ByteArray → List (S62) → ByteArray → Bool → Int → Int → Option (ByteArray × ByteArray × (List (S62)) × ByteArray × Bool × Int × Int)
 | 0, _, _, _, _, _, _, _, _, _, _ => none
 | k + 1, x77, x78, x79, x236000, x236001, x236002, x236003, x236004, x236005, x236006 => if x79 < x78 then (if 0 ≤ x79 then (if x79 < (x77.length : Int) then ((head_field.f k (rdOf ByteArray.empty x77 x79)).bind fun bt248 => (if bt248.2.2 = true then (if x236002.length < 4398046511104 then (head_Parse.l0 k x77 x78 (wrap64 (x79 + 1)) x236000 x236001 (x236002 ++ [(⟨bt248.1, bt248.2.1⟩ : S62)]) x236003 x236004 x236005 x236006) else (none)) else ((head_bad.f 400).bind fun bt255 => (some (bt255.1, bt255.2.1, bt255.2.2.1, bt255.2.2.2.1, bt255.2.2.2.2.1, bt255.2.2.2.2.2.1, bt255.2.2.2.2.2.2))))) else (none)) else (none)) else ((head_Head_frame.f k x236000 x236001 x236002 x236003 x236004 x236005 x236006).bind fun bt238 => (some (bt238.1, bt238.2.1, bt238.2.2.1, bt238.2.2.2.1, bt238.2.2.2.2.1, bt238.2.2.2.2.2.1, bt238.2.2.2.2.2.2)))
end
def head_Parse.f (k : Nat) (l0 : List ByteArray) : Option (ByteArray × ByteArray × (List (S62)) × ByteArray × Bool × Int × Int) := if (l0.length : Int) = 0 then ((head_bad.f 400).bind fun bt185 => (some (bt185.1, bt185.2.1, bt185.2.2.1, bt185.2.2.2.1, bt185.2.2.2.2.1, bt185.2.2.2.2.2.1, bt185.2.2.2.2.2.2))) else (if 0 < (l0.length : Int) then ((ascii_Words.f k (rdOf ByteArray.empty l0 0) 32).bind fun t195 => (if ((rdOf ByteArray.empty l0 0).size : Int) > 200 then (head_Parse.j0 k l0 t195 true) else (head_Parse.j0 k l0 t195 (decide ((wrap64 ((l0.length : Int) - 1)) > 16))))) else (none))
theorem head_Parse.mono_l : ∀ k, (∀ y0 y1 y2, LeO (head_Parse.j0 k y0 y1 y2) (head_Parse.j0 (k + 1) y0 y1 y2)) ∧ (∀ y0 y1 y2, LeO (head_Parse.j1 k y0 y1 y2) (head_Parse.j1 (k + 1) y0 y1 y2)) ∧ (∀ y0 y1 y2 y3 y4 y5 y6 y7 y8 y9, LeO (head_Parse.l0 k y0 y1 y2 y3 y4 y5 y6 y7 y8 y9) (head_Parse.l0 (k + 1) y0 y1 y2 y3 y4 y5 y6 y7 y8 y9))
 | 0 => ⟨fun _ _ _ r h => by simp [head_Parse.j0] at h, fun _ _ _ r h => by simp [head_Parse.j1] at h, fun _ _ _ _ _ _ _ _ _ _ r h => by simp [head_Parse.l0] at h⟩
 | k + 1 => by
  obtain ⟨ih0, ih1, ih2⟩ := head_Parse.mono_l k
  refine ⟨?_, ?_, ?_⟩
  · intro y0 y1 y2
    unfold head_Parse.j0
    repeat' first
    | (with_reducible exact ih0 _ _ _)
    | (with_reducible exact ih1 _ _ _)
    | (with_reducible exact ih2 _ _ _ _ _ _ _ _ _ _)
    | (with_reducible exact ascii_Token.mono _ _)
    | (with_reducible exact ascii_Words.mono _ _ _)
    | (with_reducible exact head_Head_frame.mono _ _ _ _ _ _ _ _)
    | (with_reducible exact head_field.mono _ _)
    | (with_reducible exact LeO.refl _)
    | (with_reducible exact LeO.none _)
    | (with_reducible refine LeO.ite ?_ ?_)
    | (with_reducible refine LeO.bind ?_ (fun _ => ?_))
    | exact ih0 _ _ _
    | exact ih1 _ _ _
    | exact ih2 _ _ _ _ _ _ _ _ _ _
    | exact ascii_Token.mono _ _
    | exact ascii_Words.mono _ _ _
    | exact head_Head_frame.mono _ _ _ _ _ _ _ _
    | exact head_field.mono _ _
    | exact LeO.none _
    | refine LeO.ite ?_ ?_
    | refine LeO.bind ?_ (fun _ => ?_)
  · intro y0 y1 y2
    unfold head_Parse.j1
    repeat' first
    | (with_reducible exact ih0 _ _ _)
    | (with_reducible exact ih1 _ _ _)
    | (with_reducible exact ih2 _ _ _ _ _ _ _ _ _ _)
    | (with_reducible exact ascii_Token.mono _ _)
    | (with_reducible exact ascii_Words.mono _ _ _)
    | (with_reducible exact head_Head_frame.mono _ _ _ _ _ _ _ _)
    | (with_reducible exact head_field.mono _ _)
    | (with_reducible exact LeO.refl _)
    | (with_reducible exact LeO.none _)
    | (with_reducible refine LeO.ite ?_ ?_)
    | (with_reducible refine LeO.bind ?_ (fun _ => ?_))
    | exact ih0 _ _ _
    | exact ih1 _ _ _
    | exact ih2 _ _ _ _ _ _ _ _ _ _
    | exact ascii_Token.mono _ _
    | exact ascii_Words.mono _ _ _
    | exact head_Head_frame.mono _ _ _ _ _ _ _ _
    | exact head_field.mono _ _
    | exact LeO.none _
    | refine LeO.ite ?_ ?_
    | refine LeO.bind ?_ (fun _ => ?_)
  · intro y0 y1 y2 y3 y4 y5 y6 y7 y8 y9
    unfold head_Parse.l0
    repeat' first
    | (with_reducible exact ih0 _ _ _)
    | (with_reducible exact ih1 _ _ _)
    | (with_reducible exact ih2 _ _ _ _ _ _ _ _ _ _)
    | (with_reducible exact ascii_Token.mono _ _)
    | (with_reducible exact ascii_Words.mono _ _ _)
    | (with_reducible exact head_Head_frame.mono _ _ _ _ _ _ _ _)
    | (with_reducible exact head_field.mono _ _)
    | (with_reducible exact LeO.refl _)
    | (with_reducible exact LeO.none _)
    | (with_reducible refine LeO.ite ?_ ?_)
    | (with_reducible refine LeO.bind ?_ (fun _ => ?_))
    | exact ih0 _ _ _
    | exact ih1 _ _ _
    | exact ih2 _ _ _ _ _ _ _ _ _ _
    | exact ascii_Token.mono _ _
    | exact ascii_Words.mono _ _ _
    | exact head_Head_frame.mono _ _ _ _ _ _ _ _
    | exact head_field.mono _ _
    | exact LeO.none _
    | refine LeO.ite ?_ ?_
    | refine LeO.bind ?_ (fun _ => ?_)
theorem head_Parse.mono : ∀ a0 k, LeO (head_Parse.f k a0) (head_Parse.f (k + 1) a0) := by
 intro a0 k
 obtain ⟨ih0, ih1, ih2⟩ := head_Parse.mono_l k
 unfold head_Parse.f
 repeat' first
     | (with_reducible exact ih0 _ _ _)
     | (with_reducible exact ih1 _ _ _)
     | (with_reducible exact ih2 _ _ _ _ _ _ _ _ _ _)
     | (with_reducible exact ascii_Token.mono _ _)
     | (with_reducible exact ascii_Words.mono _ _ _)
     | (with_reducible exact head_Head_frame.mono _ _ _ _ _ _ _ _)
     | (with_reducible exact head_field.mono _ _)
     | (with_reducible exact LeO.refl _)
     | (with_reducible exact LeO.none _)
     | (with_reducible refine LeO.ite ?_ ?_)
     | (with_reducible refine LeO.bind ?_ (fun _ => ?_))
     | exact ih0 _ _ _
     | exact ih1 _ _ _
     | exact ih2 _ _ _ _ _ _ _ _ _ _
     | exact ascii_Token.mono _ _
     | exact ascii_Words.mono _ _ _
     | exact head_Head_frame.mono _ _ _ _ _ _ _ _
     | exact head_field.mono _ _
     | exact LeO.none _
     | refine LeO.ite ?_ ?_
     | refine LeO.bind ?_ (fun _ => ?_)
def head_Parse.T10 : Bool × List (List Nat × List Nat) := (true, [([], []), ([0], [0]), ([1], [1]), ([], []), ([3], [3]), ([4], [4]), ([2, 5], [2, 5]), ([6], [6]), ([], []), ([8, 7, 0, 1, 2, 3, 4, 5, 6, 7, 8], [7, 8])])
def head_Parse.B10 : List Nat := [0, 1, 3, 0, 8, 24, 63, 127, 0, 511]
theorem head_Parse.tab10 : rtab .any (opsOf Tryd.f18 10) = head_Parse.T10 := by kernel_rfl
theorem head_Parse.bits10 : waitsOk head_Parse.T10.2 head_Parse.B10 = true := by kernel_rfl
set_option maxHeartbeats 8000000 in
set_option maxRecDepth 100000 in
theorem head_Parse.calls (k : Nat) (A0 : Option Addr) (c0 : Nat) (l0 : List ByteArray) (r1 : ByteArray) (r2 : ByteArray) (r3 : List (S62)) (r4 : ByteArray) (r5 : Bool) (r6 : Int) (r7 : Int) (w : World) (hr0 : Kd.C Kd.string w A0 l0.length l0) (hc0 : l0.length ≤ c0) (h : head_Parse.f k l0 = some (r1, r2, r3, r4, r5, r6, r7)) :
    Calls Tryd.prog 18 #[.slice A0 l0.length c0] w fun e w' => ∃ v2_ : Value, e = .returned (.agg #[.string r1, .string r2, v2_, .string r4, .bool r5, .int .i64 r6, .int .i64 r7]) ∧ Kd.R k62 62 w' w.heap.size (fun _ => True) v2_ r3 ∧ Below w.heap.size w w' := by
 have hu50 := Tryd.underlying50
 have hu31 := Tryd.underlying31
 have hu62 := Tryd.underlying62
 have HR0 := Aside0.mk hr0
 have HC0 := Aside0.mk hc0
 clear hr0 hc0
 have HB := Aside0.mk (Below.refl w.heap.size w)
 have H : (if (l0.length : Int) = 0 then ((head_bad.f 400).bind fun bt185 => (some (bt185.1, bt185.2.1, bt185.2.2.1, bt185.2.2.2.1, bt185.2.2.2.2.1, bt185.2.2.2.2.2.1, bt185.2.2.2.2.2.2))) else (if 0 < (l0.length : Int) then ((ascii_Words.f k (rdOf ByteArray.empty l0 0) 32).bind fun t195 => (if ((rdOf ByteArray.empty l0 0).size : Int) > 200 then (head_Parse.j0 k l0 t195 true) else (head_Parse.j0 k l0 t195 (decide ((wrap64 ((l0.length : Int) - 1)) > 16))))) else (none))) = some (r1, r2, r3, r4, r5, r6, r7) := h
 clear h
 by_cases c2 : (l0.length : Int) = 0
 · rw [if_pos c2] at H
   have c2b0 : ((l0.length : Int) == 0) = true := beq_iff_eq.mpr c2
   have c2b1 : ((l0.length : Int) != 0) = false := bne_eq_false_iff_eq.mpr c2
   clear c2
   replace H := Option.bind_eq_some_iff.mp H
   obtain ⟨⟨t185, t186, t187, t190, t191, t192, t193⟩, A30, H⟩ := H
   replace H : (some (t185, t186, t187, t190, t191, t192, t193)) = some (r1, r2, r3, r4, r5, r6, r7) := H
   have A3 := Aside0.mk A30
   clear A30
   simp only [Option.some.injEq, Prod.mk.injEq] at H
   obtain ⟨rfl, rfl, rfl, rfl, rfl, rfl, rfl⟩ := H
   go_enter Tryd.func18, Tryd.ntmps18
   go_wp2_with (first | ((with_reducible refine gate_dst (N := 2) rfl ?_); (try (refine gate_guard (by rfl) ?_; dsimp only)); refine box_event ?hg (N := 2) ?hd (cs := #[.string (⟨#[]⟩ : ByteArray), .string (⟨#[]⟩ : ByteArray), .slice none 0 0, .string (⟨#[]⟩ : ByteArray), .bool false, .int .i64 0, .int .i64 0]) (t := 50) ?hr ?_; (case hd => rfl); (case hg => rfl); (case hr => first | (go_simp; done) | (go_simp; rfl)); intro gb184 hg w4 hbox hb; have n0_ := Aside0.mk (below_step (by repeat (first | (with_reducible first | exact HB.out | apply below_alloc | apply pw_below_drewN | apply below_drew1) | exact HB.out)) hb); have n1_ := Aside0.mk (hbox); have n2_ := Aside0.mk ((by rw [hg]; exact (below_size (by repeat (first | (with_reducible first | exact HB.out | apply below_alloc | apply pw_below_drewN | apply below_drew1) | exact HB.out))) : w.heap.size ≤ gb184)); have n3_ := Aside0.mk ((by rw [hg]; exact (below_size (by repeat (first | (with_reducible first | exact HB.out | apply below_alloc | apply pw_below_drewN | apply below_drew1) | exact HB.out))) : w.heap.size ≤ gb184)); clear HB; have HB := n0_; have BK184 := n1_; have GW184 := n2_; have GE184 := n3_; clear n0_ n1_ n2_ n3_; clear hb hbox hg) | ((with_reducible refine gate_callee (f := 26) rfl ?_); refine goesL_ (some 12) rfl rfl Tryd.func26 (by kernel_rfl) rfl #[.int .i64 400] rfl (by (try simp only [List.map_toArray, List.map_cons, List.map_nil]); first | done | rfl | (simp only [List.length_drop, List.length_take]; rfl)) ?_; (with_reducible refine (head_bad.calls 400 t185 t186 t187 t190 t191 t192 t193 _ A3.out).mono ?_); rintro e w5 ⟨v188, rfl, ho0, hb⟩; refine ⟨_, rfl, ?_⟩; have n0_ := Aside0.mk (Kd.R_lower ho0 (below_size (by repeat (first | (with_reducible first | exact HB.out | apply below_alloc | apply pw_below_drewN | apply below_drew1 | refine below_set ?_ GE184.out) | exact HB.out)))); have n1_ := Aside0.mk (blk_below (g := gb184) (o := .cells #[.string (⟨#[]⟩ : ByteArray), .string (⟨#[]⟩ : ByteArray), .slice none 0 0, .string (⟨#[]⟩ : ByteArray), .bool false, .int .i64 0, .int .i64 0] 50 (0, 0)) (by (with_reducible repeat (first | refine blk_drewN ?_ _ | refine blk_drew ?_ | refine blk_alloc ?_ _)); exact BK184.out) hb); have n2_ := Aside0.mk (below_step (by repeat (first | (with_reducible first | exact HB.out | apply below_alloc | apply pw_below_drewN | apply below_drew1 | refine below_set ?_ GE184.out) | exact HB.out)) hb); clear BK184; clear HB; have HO189 := n0_; have BK184 := n1_; have HB := n2_; clear n0_ n1_ n2_; (try clear hb); (try clear hb2); (try clear hk); (try clear hi); (try clear ho0); have hcz6_0 : w5.cell? ⟨gb184, 0, none⟩ = some (.string (⟨#[]⟩ : ByteArray)) := (blk_cell BK184.out 0).trans rfl; have hcz6_1 : w5.cell? ⟨gb184, 1, none⟩ = some (.string (⟨#[]⟩ : ByteArray)) := (blk_cell BK184.out 1).trans rfl; have hcz6_2 : w5.cell? ⟨gb184, 2, none⟩ = some (.slice none 0 0) := (blk_cell BK184.out 2).trans rfl; have hcz6_3 : w5.cell? ⟨gb184, 3, none⟩ = some (.string (⟨#[]⟩ : ByteArray)) := (blk_cell BK184.out 3).trans rfl; have hcz6_4 : w5.cell? ⟨gb184, 4, none⟩ = some (.bool false) := (blk_cell BK184.out 4).trans rfl; have hcz6_5 : w5.cell? ⟨gb184, 5, none⟩ = some (.int .i64 0) := (blk_cell BK184.out 5).trans rfl; have hcz6_6 : w5.cell? ⟨gb184, 6, none⟩ = some (.int .i64 0) := (blk_cell BK184.out 6).trans rfl; have hfz6_0 := blk_frozen BK184.out 0; have hfz6_1 := blk_frozen BK184.out 1; have hfz6_2 := blk_frozen BK184.out 2; have hfz6_3 := blk_frozen BK184.out 3; have hfz6_4 := blk_frozen BK184.out 4; have hfz6_5 := blk_frozen BK184.out 5; have hfz6_6 := blk_frozen BK184.out 6; obtain ⟨Ao7, co7, eo7⟩ := Kd.R_slice HO189.out; subst eo7))
   refine bodyPost_ret (results_cell_row rfl _ _ gb184 50 #[.string t185, .string t186, .slice Ao7 t187.length co7, .string t190, .bool t191, .int .i64 t192, .int .i64 t193] (0, 0) _ rfl (by (with_reducible repeat (first | refine blk_drewN ?_ _ | refine blk_drew ?_ | refine blk_alloc ?_ _)); refine blk_put (cs := #[.string t185, .string t186, .slice Ao7 t187.length co7, .string t190, .bool t191, .int .i64 t192, .int .i64 0]) ?_ 6 _ rfl; (with_reducible repeat (first | refine blk_drewN ?_ _ | refine blk_drew ?_ | refine blk_alloc ?_ _)); refine blk_put (cs := #[.string t185, .string t186, .slice Ao7 t187.length co7, .string t190, .bool t191, .int .i64 0, .int .i64 0]) ?_ 5 _ rfl; (with_reducible repeat (first | refine blk_drewN ?_ _ | refine blk_drew ?_ | refine blk_alloc ?_ _)); refine blk_put (cs := #[.string t185, .string t186, .slice Ao7 t187.length co7, .string t190, .bool false, .int .i64 0, .int .i64 0]) ?_ 4 _ rfl; (with_reducible repeat (first | refine blk_drewN ?_ _ | refine blk_drew ?_ | refine blk_alloc ?_ _)); refine blk_put (cs := #[.string t185, .string t186, .slice Ao7 t187.length co7, .string (⟨#[]⟩ : ByteArray), .bool false, .int .i64 0, .int .i64 0]) ?_ 3 _ rfl; (with_reducible repeat (first | refine blk_drewN ?_ _ | refine blk_drew ?_ | refine blk_alloc ?_ _)); refine blk_put (cs := #[.string t185, .string t186, .slice none 0 0, .string (⟨#[]⟩ : ByteArray), .bool false, .int .i64 0, .int .i64 0]) ?_ 2 _ rfl; (with_reducible repeat (first | refine blk_drewN ?_ _ | refine blk_drew ?_ | refine blk_alloc ?_ _)); refine blk_put (cs := #[.string t185, .string (⟨#[]⟩ : ByteArray), .slice none 0 0, .string (⟨#[]⟩ : ByteArray), .bool false, .int .i64 0, .int .i64 0]) ?_ 1 _ rfl; (with_reducible repeat (first | refine blk_drewN ?_ _ | refine blk_drew ?_ | refine blk_alloc ?_ _)); refine blk_put (cs := #[.string (⟨#[]⟩ : ByteArray), .string (⟨#[]⟩ : ByteArray), .slice none 0 0, .string (⟨#[]⟩ : ByteArray), .bool false, .int .i64 0, .int .i64 0]) ?_ 0 _ rfl; (with_reducible repeat (first | refine blk_drewN ?_ _ | refine blk_drew ?_ | refine blk_alloc ?_ _)); exact BK184.out) Tryd.underlying50 rfl (by kernel_rfl)) rfl ?_
   exact ⟨_, by first | rfl | (simp [errW_none, errW_some] <;> rfl) | (simp [*, errW_none, errW_some] <;> rfl), by (with_reducible repeat (first | apply Kd.R_alloc | apply Kd.R_drewN | apply Kd.R_drew)); exact Kd.R_mono (Kd.R_far (p := ⟨gb184, 6, none⟩) (Kd.R_far (p := ⟨gb184, 5, none⟩) (Kd.R_far (p := ⟨gb184, 4, none⟩) (Kd.R_far (p := ⟨gb184, 3, none⟩) (Kd.R_far (p := ⟨gb184, 2, none⟩) (Kd.R_far (p := ⟨gb184, 1, none⟩) (Kd.R_far (p := ⟨gb184, 0, none⟩) (Kd.R_types HO189.out BK184.out (by decide)) (fun _ hk => hk.2) (.string t185)) (fun _ hk => hk.2) (.string t186)) (fun _ hk => hk.2) (.slice Ao7 t187.length co7)) (fun _ hk => hk.2) (.string t190)) (fun _ hk => hk.2) (.bool t191)) (fun _ hk => hk.2) (.int .i64 t192)) (fun _ hk => hk.2) (.int .i64 t193)) (fun _ hk => trivial), by repeat (first | (with_reducible first | exact HB.out | apply below_alloc | apply pw_below_drewN | apply below_drew1 | refine below_set ?_ GE184.out) | exact HB.out)⟩
 · rw [if_neg c2] at H
   have c2b0 : ((l0.length : Int) == 0) = false := beq_eq_false_iff_ne.mpr c2
   have c2b1 : ((l0.length : Int) != 0) = true := bne_iff_ne.mpr c2
   have c2b2 : ¬ (l0 = []) := fun h_ => c2 (by rw [h_]; rfl)
   by_cases c8 : 0 < (l0.length : Int)
   · rw [if_pos c8] at H
     have c8b0 : decide (0 < (l0.length : Int)) = true := decide_eq_true c8
     have c8b1 : decide (0 < l0.length) = true := decide_eq_true (by omega)
     clear c8
     replace H := Option.bind_eq_some_iff.mp H
     obtain ⟨t195, A90, H⟩ := H
     replace H : (if ((rdOf ByteArray.empty l0 0).size : Int) > 200 then (head_Parse.j0 k l0 t195 true) else (head_Parse.j0 k l0 t195 (decide ((wrap64 ((l0.length : Int) - 1)) > 16)))) = some (r1, r2, r3, r4, r5, r6, r7) := H
     have A9 := Aside0.mk A90
     clear A90
     have HC10 := Aside0.mk H
     clear H
     go_enter Tryd.func18, Tryd.ntmps18
     go_upto_region 4 with (first | ((with_reducible refine gate_dst (N := 2) rfl ?_); (try (refine gate_guard (by rfl) ?_; dsimp only)); refine box_event ?hg (N := 2) ?hd (cs := #[.string (⟨#[]⟩ : ByteArray), .string (⟨#[]⟩ : ByteArray), .slice none 0 0, .string (⟨#[]⟩ : ByteArray), .bool false, .int .i64 0, .int .i64 0]) (t := 50) ?hr ?_; (case hd => rfl); (case hg => rfl); (case hr => first | (go_simp; done) | (go_simp; rfl)); intro gb184 hg w11 hbox hb; have n0_ := Aside0.mk (below_step (by repeat (first | (with_reducible first | exact HB.out | apply below_alloc | apply pw_below_drewN | apply below_drew1) | exact HB.out)) hb); have n1_ := Aside0.mk (hbox); have n2_ := Aside0.mk ((by rw [hg]; exact (below_size (by repeat (first | (with_reducible first | exact HB.out | apply below_alloc | apply pw_below_drewN | apply below_drew1) | exact HB.out))) : w.heap.size ≤ gb184)); have n3_ := Aside0.mk ((by rw [hg]; exact (below_size (by repeat (first | (with_reducible first | exact HB.out | apply below_alloc | apply pw_below_drewN | apply below_drew1) | exact HB.out))) : w.heap.size ≤ gb184)); clear HB; have HB := n0_; have BK184 := n1_; have GW184 := n2_; have GE184 := n3_; clear n0_ n1_ n2_ n3_; clear hb hbox hg; have p194 : 0 ≤ (0 : Int) := (by omega); have q194 : 0 < (l0.length : Int) := of_decide_eq_true (by first | (with_reducible assumption) | assumption); obtain ⟨ad194, e194, hx194_0⟩ := Kd.at_string HR0.out 0 p194 q194; cases e194; have qi194 : (0 < l0.length) = True := eq_true (by omega); (try rw [show ((0 : Int)).toNat = 0 from rfl] at hx194_0); (try rw [Addr.add_zero'] at hx194_0); replace hx194_0 := (HB.out.cell (World.block_lt_of_cell? w _ hx194_0)).trans hx194_0; replace p194 := eq_true p194; replace q194 := eq_true q194) | ((with_reducible refine gate_callee (f := 27) rfl ?_); refine goesL_ (some 16) rfl rfl Tryd.func27 (by kernel_rfl) rfl #[.string (rdOf ByteArray.empty l0 0), .int .u8 32] rfl (by (try simp only [List.map_toArray, List.map_cons, List.map_nil]); first | done | rfl | (simp only [List.length_drop, List.length_take]; rfl)) ?_; (with_reducible refine (ascii_Words.calls k (rdOf ByteArray.empty l0 0) 32 t195 _ A9.out).mono ?_); rintro e w12 ⟨v196, rfl, ho0, hb⟩; refine ⟨_, rfl, ?_⟩; have n0_ := Aside0.mk (Kd.R_lower ho0 (below_size (by repeat (first | (with_reducible first | exact HB.out | apply below_alloc | apply pw_below_drewN | apply below_drew1 | refine below_set ?_ GE184.out) | exact HB.out)))); have n1_ := Aside0.mk (blk_below (g := gb184) (o := .cells #[.string (⟨#[]⟩ : ByteArray), .string (⟨#[]⟩ : ByteArray), .slice none 0 0, .string (⟨#[]⟩ : ByteArray), .bool false, .int .i64 0, .int .i64 0] 50 (0, 0)) (by (with_reducible repeat (first | refine blk_drewN ?_ _ | refine blk_drew ?_ | refine blk_alloc ?_ _)); exact BK184.out) hb); have n2_ := Aside0.mk (below_step (by repeat (first | (with_reducible first | exact HB.out | apply below_alloc | apply pw_below_drewN | apply below_drew1 | refine below_set ?_ GE184.out) | exact HB.out)) hb); clear BK184; clear HB; have HO197 := n0_; have BK184 := n1_; have HB := n2_; clear n0_ n1_ n2_; (try clear hb); (try clear hb2); (try clear hk); (try clear hi); (try clear ho0)))
     (try simp only [Act.put, List.setIfInBounds_toArray, List.set_cons_zero, List.set_cons_succ])
     go_cut [17] (fun v17 wc => ∃ (kq : Nat) (x17_9 : Bool), v17 = .bool x17_9 ∧ Aside0 (head_Parse.j0 kq l0 t195 x17_9 = some (r1, r2, r3, r4, r5, r6, r7)) ∧ Aside0 (kq ≤ k) ∧ Aside0 (Kd.R Kd.string 9 wc w.heap.size (fun _ => True) v196 t195) ∧ Aside0 (wc.heap[gb184]? = some (.cells #[.string (⟨#[]⟩ : ByteArray), .string (⟨#[]⟩ : ByteArray), (.slice none 0 0), .string (⟨#[]⟩ : ByteArray), .bool false, .int .i64 0, .int .i64 0] 50 (0, 0))) ∧ Aside0 (Below w.heap.size w wc))
     case first =>
      have H := HC10.out
      clear HC10
      by_cases c13 : ((rdOf ByteArray.empty l0 0).size : Int) > 200
      · rw [if_pos c13] at H
        have c13b0 : decide (200 < ((rdOf ByteArray.empty l0 0).size : Int)) = true := decide_eq_true c13
        have c13b1 : decide (200 < (rdOf ByteArray.empty l0 0).size) = true := decide_eq_true (by omega)
        clear c13
        (first | rw [c13b0] | (simp only [i64_w, i32_w]; rw [c13b0]) | skip)
        have H' := Aside0.mk H
        clear H
        have p198 : 0 ≤ (0 : Int) := (by omega)
        have q198 : 0 < (l0.length : Int) := of_decide_eq_true (by first | (with_reducible assumption) | assumption)
        obtain ⟨ad198, e198, hx198_0⟩ := Kd.at_string HR0.out 0 p198 q198
        obtain rfl : ad194 = ad198 := (by injection e198)
        have qi198 : (0 < l0.length) = True := eq_true (by omega)
        (try rw [show ((0 : Int)).toNat = 0 from rfl] at hx198_0)
        (try rw [Addr.add_zero'] at hx198_0)
        replace hx198_0 := (HB.out.cell (World.block_lt_of_cell? w _ hx198_0)).trans hx198_0
        replace p198 := eq_true p198
        replace q198 := eq_true q198
        go_wp2
        go_meet
        case rel => exact ⟨_, (true), (by first | rfl | (simp; done) | (simp [*]; done)), H', ⟨by first | omega | exact Nat.le_refl _⟩, ⟨by (with_reducible repeat (first | apply Kd.R_alloc | apply Kd.R_drewN | apply Kd.R_drew)); exact HO197.out⟩, ⟨by (with_reducible repeat (first | refine blk_drewN ?_ _ | refine blk_drew ?_ | refine blk_alloc ?_ _)); exact BK184.out⟩, ⟨by repeat (first | (with_reducible first | exact HB.out | apply below_alloc | apply pw_below_drewN | apply below_drew1 | refine below_set ?_ GE184.out) | exact HB.out)⟩⟩
      · rw [if_neg c13] at H
        have c13b0 : decide (200 < ((rdOf ByteArray.empty l0 0).size : Int)) = false := decide_eq_false c13
        have c13b1 : decide (200 < (rdOf ByteArray.empty l0 0).size) = false := decide_eq_false (by omega)
        clear c13
        (first | rw [c13b0] | (simp only [i64_w, i32_w]; rw [c13b0]) | skip)
        have H' := Aside0.mk H
        clear H
        have p198 : 0 ≤ (0 : Int) := (by omega)
        have q198 : 0 < (l0.length : Int) := of_decide_eq_true (by first | (with_reducible assumption) | assumption)
        obtain ⟨ad198, e198, hx198_0⟩ := Kd.at_string HR0.out 0 p198 q198
        obtain rfl : ad194 = ad198 := (by injection e198)
        have qi198 : (0 < l0.length) = True := eq_true (by omega)
        (try rw [show ((0 : Int)).toNat = 0 from rfl] at hx198_0)
        (try rw [Addr.add_zero'] at hx198_0)
        replace hx198_0 := (HB.out.cell (World.block_lt_of_cell? w _ hx198_0)).trans hx198_0
        replace p198 := eq_true p198
        replace q198 := eq_true q198
        go_wp2
        go_meet
        case rel => exact ⟨_, (decide ((wrap64 ((l0.length : Int) - 1)) > 16)), (by first | rfl | (simp; done) | (simp [*]; done)), H', ⟨by first | omega | exact Nat.le_refl _⟩, ⟨by (with_reducible repeat (first | apply Kd.R_alloc | apply Kd.R_drewN | apply Kd.R_drew)); exact HO197.out⟩, ⟨by (with_reducible repeat (first | refine blk_drewN ?_ _ | refine blk_drew ?_ | refine blk_alloc ?_ _)); exact BK184.out⟩, ⟨by repeat (first | (with_reducible first | exact HB.out | apply below_alloc | apply pw_below_drewN | apply below_drew1 | refine below_set ?_ GE184.out) | exact HB.out)⟩⟩
     case rest =>
      clear HC10
      try clear c1
      try clear p1
      try clear q1
      try clear hx1
      try clear qi1
      try clear c2
      try clear c2b0
      try clear c2b1
      try clear c2b2
      try clear p2
      try clear p6
      try clear c8
      try clear c8b0
      try clear c8b1
      try clear c13
      try clear c13b0
      try clear c13b1
      try clear hcz6_0
      try clear hcz6_1
      try clear hcz6_2
      try clear hcz6_3
      try clear hcz6_4
      try clear hcz6_5
      try clear hcz6_6
      try clear hfz6_0
      try clear hfz6_1
      try clear hfz6_2
      try clear hfz6_3
      try clear hfz6_4
      try clear hfz6_5
      try clear hfz6_6
      try clear hx194_0
      try clear hx198_0
      try clear p194
      try clear p198
      try clear q194
      try clear q198
      obtain ⟨kq, x17_9, rfl, HA, HJ9, HO_3, BK184, HB⟩ := hcut
      cases kq with
      | zero => exact absurd HA.out (by simp [head_Parse.j0])
      | succ kj9 =>
       have H := HA.out
       clear HA
       simp only [head_Parse.j0] at H
       by_cases c14 : x17_9 = true
       · subst c14
         have H1 : ((head_bad.f 431).bind fun bt199 => (some (bt199.1, bt199.2.1, bt199.2.2.1, bt199.2.2.2.1, bt199.2.2.2.2.1, bt199.2.2.2.2.2.1, bt199.2.2.2.2.2.2))) = some (r1, r2, r3, r4, r5, r6, r7) := by rw [if_pos rfl] at H; exact H
         clear H
         have H := H1
         clear H1
         replace H := Option.bind_eq_some_iff.mp H
         obtain ⟨⟨t199, t200, t201, t204, t205, t206, t207⟩, A150, H⟩ := H
         replace H : (some (t199, t200, t201, t204, t205, t206, t207)) = some (r1, r2, r3, r4, r5, r6, r7) := H
         have A15 := Aside0.mk A150
         clear A150
         simp only [Option.some.injEq, Prod.mk.injEq] at H
         obtain ⟨rfl, rfl, rfl, rfl, rfl, rfl, rfl⟩ := H
         go_wp2_with (first | ((with_reducible refine gate_callee (f := 26) rfl ?_); refine goesL_ (some 29) rfl rfl Tryd.func26 (by kernel_rfl) rfl #[.int .i64 431] rfl (by (try simp only [List.map_toArray, List.map_cons, List.map_nil]); first | done | rfl | (simp only [List.length_drop, List.length_take]; rfl)) ?_; (with_reducible refine (head_bad.calls 431 t199 t200 t201 t204 t205 t206 t207 _ A15.out).mono ?_); rintro e w16 ⟨v202, rfl, ho0, hb⟩; refine ⟨_, rfl, ?_⟩; have n0_ := Aside0.mk (Kd.R_below (by (with_reducible repeat (first | apply Kd.R_alloc | apply Kd.R_drewN | apply Kd.R_drew)); exact HO_3.out) hb); have n1_ := Aside0.mk (Kd.R_lower ho0 (below_size (by repeat (first | (with_reducible first | exact HB.out | apply below_alloc | apply pw_below_drewN | apply below_drew1 | refine below_set ?_ GE184.out) | exact HB.out)))); have n2_ := Aside0.mk (blk_below (g := gb184) (o := .cells #[.string (⟨#[]⟩ : ByteArray), .string (⟨#[]⟩ : ByteArray), .slice none 0 0, .string (⟨#[]⟩ : ByteArray), .bool false, .int .i64 0, .int .i64 0] 50 (0, 0)) (by (with_reducible repeat (first | refine blk_drewN ?_ _ | refine blk_drew ?_ | refine blk_alloc ?_ _)); exact BK184.out) hb); have n3_ := Aside0.mk (below_step (by repeat (first | (with_reducible first | exact HB.out | apply below_alloc | apply pw_below_drewN | apply below_drew1 | refine below_set ?_ GE184.out) | exact HB.out)) hb); clear HO_3; clear BK184; clear HB; have HO_3 := n0_; have HO203 := n1_; have BK184 := n2_; have HB := n3_; clear n0_ n1_ n2_ n3_; (try clear hb); (try clear hb2); (try clear hk); (try clear hi); (try clear ho0); have hcz17_0 : w16.cell? ⟨gb184, 0, none⟩ = some (.string (⟨#[]⟩ : ByteArray)) := (blk_cell BK184.out 0).trans rfl; have hcz17_1 : w16.cell? ⟨gb184, 1, none⟩ = some (.string (⟨#[]⟩ : ByteArray)) := (blk_cell BK184.out 1).trans rfl; have hcz17_2 : w16.cell? ⟨gb184, 2, none⟩ = some (.slice none 0 0) := (blk_cell BK184.out 2).trans rfl; have hcz17_3 : w16.cell? ⟨gb184, 3, none⟩ = some (.string (⟨#[]⟩ : ByteArray)) := (blk_cell BK184.out 3).trans rfl; have hcz17_4 : w16.cell? ⟨gb184, 4, none⟩ = some (.bool false) := (blk_cell BK184.out 4).trans rfl; have hcz17_5 : w16.cell? ⟨gb184, 5, none⟩ = some (.int .i64 0) := (blk_cell BK184.out 5).trans rfl; have hcz17_6 : w16.cell? ⟨gb184, 6, none⟩ = some (.int .i64 0) := (blk_cell BK184.out 6).trans rfl; have hfz17_0 := blk_frozen BK184.out 0; have hfz17_1 := blk_frozen BK184.out 1; have hfz17_2 := blk_frozen BK184.out 2; have hfz17_3 := blk_frozen BK184.out 3; have hfz17_4 := blk_frozen BK184.out 4; have hfz17_5 := blk_frozen BK184.out 5; have hfz17_6 := blk_frozen BK184.out 6; obtain ⟨Ao18, co18, eo18⟩ := Kd.R_slice HO203.out; subst eo18))
         refine bodyPost_ret (results_cell_row rfl _ _ gb184 50 #[.string t199, .string t200, .slice Ao18 t201.length co18, .string t204, .bool t205, .int .i64 t206, .int .i64 t207] (0, 0) _ rfl (by (with_reducible repeat (first | refine blk_drewN ?_ _ | refine blk_drew ?_ | refine blk_alloc ?_ _)); refine blk_put (cs := #[.string t199, .string t200, .slice Ao18 t201.length co18, .string t204, .bool t205, .int .i64 t206, .int .i64 0]) ?_ 6 _ rfl; (with_reducible repeat (first | refine blk_drewN ?_ _ | refine blk_drew ?_ | refine blk_alloc ?_ _)); refine blk_put (cs := #[.string t199, .string t200, .slice Ao18 t201.length co18, .string t204, .bool t205, .int .i64 0, .int .i64 0]) ?_ 5 _ rfl; (with_reducible repeat (first | refine blk_drewN ?_ _ | refine blk_drew ?_ | refine blk_alloc ?_ _)); refine blk_put (cs := #[.string t199, .string t200, .slice Ao18 t201.length co18, .string t204, .bool false, .int .i64 0, .int .i64 0]) ?_ 4 _ rfl; (with_reducible repeat (first | refine blk_drewN ?_ _ | refine blk_drew ?_ | refine blk_alloc ?_ _)); refine blk_put (cs := #[.string t199, .string t200, .slice Ao18 t201.length co18, .string (⟨#[]⟩ : ByteArray), .bool false, .int .i64 0, .int .i64 0]) ?_ 3 _ rfl; (with_reducible repeat (first | refine blk_drewN ?_ _ | refine blk_drew ?_ | refine blk_alloc ?_ _)); refine blk_put (cs := #[.string t199, .string t200, .slice none 0 0, .string (⟨#[]⟩ : ByteArray), .bool false, .int .i64 0, .int .i64 0]) ?_ 2 _ rfl; (with_reducible repeat (first | refine blk_drewN ?_ _ | refine blk_drew ?_ | refine blk_alloc ?_ _)); refine blk_put (cs := #[.string t199, .string (⟨#[]⟩ : ByteArray), .slice none 0 0, .string (⟨#[]⟩ : ByteArray), .bool false, .int .i64 0, .int .i64 0]) ?_ 1 _ rfl; (with_reducible repeat (first | refine blk_drewN ?_ _ | refine blk_drew ?_ | refine blk_alloc ?_ _)); refine blk_put (cs := #[.string (⟨#[]⟩ : ByteArray), .string (⟨#[]⟩ : ByteArray), .slice none 0 0, .string (⟨#[]⟩ : ByteArray), .bool false, .int .i64 0, .int .i64 0]) ?_ 0 _ rfl; (with_reducible repeat (first | refine blk_drewN ?_ _ | refine blk_drew ?_ | refine blk_alloc ?_ _)); exact BK184.out) Tryd.underlying50 rfl (by kernel_rfl)) rfl ?_
         exact ⟨_, by first | rfl | (simp [errW_none, errW_some] <;> rfl) | (simp [*, errW_none, errW_some] <;> rfl), by (with_reducible repeat (first | apply Kd.R_alloc | apply Kd.R_drewN | apply Kd.R_drew)); exact Kd.R_mono (Kd.R_far (p := ⟨gb184, 6, none⟩) (Kd.R_far (p := ⟨gb184, 5, none⟩) (Kd.R_far (p := ⟨gb184, 4, none⟩) (Kd.R_far (p := ⟨gb184, 3, none⟩) (Kd.R_far (p := ⟨gb184, 2, none⟩) (Kd.R_far (p := ⟨gb184, 1, none⟩) (Kd.R_far (p := ⟨gb184, 0, none⟩) (Kd.R_types HO203.out BK184.out (by decide)) (fun _ hk => hk.2) (.string t199)) (fun _ hk => hk.2) (.string t200)) (fun _ hk => hk.2) (.slice Ao18 t201.length co18)) (fun _ hk => hk.2) (.string t204)) (fun _ hk => hk.2) (.bool t205)) (fun _ hk => hk.2) (.int .i64 t206)) (fun _ hk => hk.2) (.int .i64 t207)) (fun _ hk => trivial), by repeat (first | (with_reducible first | exact HB.out | apply below_alloc | apply pw_below_drewN | apply below_drew1 | refine below_set ?_ GE184.out) | exact HB.out)⟩
       · replace c14 := Bool.eq_false_iff.mpr c14
         subst c14
         have H1 : (if (t195.length : Int) = 3 then (if 0 < (t195.length : Int) then ((ascii_Token.f kj9 (rdOf ByteArray.empty t195 0)).bind fun t209 => (if t209 = true then (if 1 < (t195.length : Int) then (if (rdOf ByteArray.empty t195 1).toList = ([] : List UInt8) then (head_Parse.j1 kj9 l0 t195 true) else (if 0 < ((rdOf ByteArray.empty t195 1).size : Int) then (if (bt (rdOf ByteArray.empty t195 1) 0) = 47 then ((ascii_Value.f (rdOf ByteArray.empty t195 1)).bind fun t213 => (head_Parse.j1 kj9 l0 t195 (!t213))) else (head_Parse.j1 kj9 l0 t195 true)) else (none))) else (none)) else (head_Parse.j1 kj9 l0 t195 true))) else (none)) else (head_Parse.j1 kj9 l0 t195 true)) = some (r1, r2, r3, r4, r5, r6, r7) := by rw [if_neg (show ¬ (false = true) by decide)] at H; exact H
         clear H
         have H := H1
         clear H1
         have HC19 := Aside0.mk H
         clear H
         go_upto_region 6 with (fail)
         go_cut [30] (fun v30 wc => ∃ (kq : Nat) (x30_18 : Bool), v30 = .bool x30_18 ∧ Aside0 (head_Parse.j1 kq l0 t195 x30_18 = some (r1, r2, r3, r4, r5, r6, r7)) ∧ Aside0 (kq ≤ kj9) ∧ Aside0 (Kd.R Kd.string 9 wc w.heap.size (fun _ => True) v196 t195) ∧ Aside0 (wc.heap[gb184]? = some (.cells #[.string (⟨#[]⟩ : ByteArray), .string (⟨#[]⟩ : ByteArray), (.slice none 0 0), .string (⟨#[]⟩ : ByteArray), .bool false, .int .i64 0, .int .i64 0] 50 (0, 0))) ∧ Aside0 (Below w.heap.size w wc))
         case first =>
          have H := HC19.out
          clear HC19
          by_cases c20 : (t195.length : Int) = 3
          · rw [if_pos c20] at H
            have c20b0 : ((t195.length : Int) == 3) = true := beq_iff_eq.mpr c20
            have c20b1 : ((t195.length : Int) != 3) = false := bne_eq_false_iff_eq.mpr c20
            clear c20
            (first | rw [c20b0] | (simp only [i64_w, i32_w]; rw [c20b0]) | skip)
            by_cases c21 : 0 < (t195.length : Int)
            · rw [if_pos c21] at H
              have c21b0 : decide (0 < (t195.length : Int)) = true := decide_eq_true c21
              have c21b1 : decide (0 < t195.length) = true := decide_eq_true (by omega)
              clear c21
              replace H := Option.bind_eq_some_iff.mp H
              obtain ⟨t209, A220, H⟩ := H
              replace H : (if t209 = true then (if 1 < (t195.length : Int) then (if (rdOf ByteArray.empty t195 1).toList = ([] : List UInt8) then (head_Parse.j1 kj9 l0 t195 true) else (if 0 < ((rdOf ByteArray.empty t195 1).size : Int) then (if (bt (rdOf ByteArray.empty t195 1) 0) = 47 then ((ascii_Value.f (rdOf ByteArray.empty t195 1)).bind fun t213 => (head_Parse.j1 kj9 l0 t195 (!t213))) else (head_Parse.j1 kj9 l0 t195 true)) else (none))) else (none)) else (head_Parse.j1 kj9 l0 t195 true)) = some (r1, r2, r3, r4, r5, r6, r7) := H
              have A22 := Aside0.mk A220
              clear A220
              by_cases c23 : t209 = true
              · subst c23
                have H1 : (if 1 < (t195.length : Int) then (if (rdOf ByteArray.empty t195 1).toList = ([] : List UInt8) then (head_Parse.j1 kj9 l0 t195 true) else (if 0 < ((rdOf ByteArray.empty t195 1).size : Int) then (if (bt (rdOf ByteArray.empty t195 1) 0) = 47 then ((ascii_Value.f (rdOf ByteArray.empty t195 1)).bind fun t213 => (head_Parse.j1 kj9 l0 t195 (!t213))) else (head_Parse.j1 kj9 l0 t195 true)) else (none))) else (none)) = some (r1, r2, r3, r4, r5, r6, r7) := by rw [if_pos rfl] at H; exact H
                clear H
                have H := H1
                clear H1
                by_cases c24 : 1 < (t195.length : Int)
                · rw [if_pos c24] at H
                  have c24b0 : decide (1 < (t195.length : Int)) = true := decide_eq_true c24
                  have c24b1 : decide (1 < t195.length) = true := decide_eq_true (by omega)
                  clear c24
                  by_cases c25 : (rdOf ByteArray.empty t195 1).toList = ([] : List UInt8)
                  · rw [if_pos c25] at H
                    have c25b0 : ((rdOf ByteArray.empty t195 1).toList == ([] : List UInt8)) = true := beq_iff_eq.mpr c25
                    have c25b1 : ((rdOf ByteArray.empty t195 1).toList != ([] : List UInt8)) = false := bne_eq_false_iff_eq.mpr c25
                    clear c25
                    have H' := Aside0.mk H
                    clear H
                    obtain ⟨Ao26, co26, eo26⟩ := Kd.R_slice HO_3.out
                    subst eo26
                    have p208 : 0 ≤ (0 : Int) := (by omega)
                    have q208 : 0 < (t195.length : Int) := of_decide_eq_true (by first | (with_reducible assumption) | assumption)
                    obtain ⟨ad208, e208, hx208_0⟩ := Kd.at_string (Kd.R_reads' HO_3.out).2.2 0 p208 q208
                    cases e208
                    have qi208 : (0 < t195.length) = True := eq_true (by omega)
                    (try rw [show ((0 : Int)).toNat = 0 from rfl] at hx208_0)
                    (try rw [Addr.add_zero'] at hx208_0)
                    replace p208 := eq_true p208
                    replace q208 := eq_true q208
                    go_wp2_with (first | (go_at_call 28; (with_reducible refine (ascii_Token.calls kj9 (rdOf ByteArray.empty t195 0) true _ A22.out).mono ?_); rintro e w' ⟨rfl, ⟨nd, rfl⟩⟩; have p210 : 0 ≤ (1 : Int) := (by omega); have q210 : 1 < (t195.length : Int) := of_decide_eq_true (by first | (with_reducible assumption) | assumption); obtain ⟨ad210, e210, hx210_0⟩ := Kd.at_string (Kd.R_reads' HO_3.out).2.2 1 p210 q210; obtain rfl : ad208 = ad210 := (by injection e210); (try simp only [show (1 : Int).toNat = 1 from rfl, Nat.reduceMul, Nat.reduceEqDiff, Go.Addr.add, ↓reduceIte] at hx210_0); have qi210 : (1 < t195.length) = True := eq_true (by omega); (try rw [show ((1 : Int)).toNat = 1 from rfl] at hx210_0); replace p210 := eq_true p210; replace q210 := eq_true q210))
                    go_meet
                    case rel => exact ⟨_, (true), (by first | rfl | (simp; done) | (simp [*]; done)), H', ⟨by have := HJ9.out; first | omega | exact Nat.le_refl _⟩, ⟨by (with_reducible repeat (first | apply Kd.R_alloc | apply Kd.R_drewN | apply Kd.R_drew)); exact HO_3.out⟩, ⟨by (with_reducible repeat (first | refine blk_drewN ?_ _ | refine blk_drew ?_ | refine blk_alloc ?_ _)); exact BK184.out⟩, ⟨by repeat (first | (with_reducible first | exact HB.out | apply below_alloc | apply pw_below_drewN | apply below_drew1 | refine below_set ?_ GE184.out) | exact HB.out)⟩⟩
                  · rw [if_neg c25] at H
                    have c25b0 : ((rdOf ByteArray.empty t195 1).toList == ([] : List UInt8)) = false := beq_eq_false_iff_ne.mpr c25
                    have c25b1 : ((rdOf ByteArray.empty t195 1).toList != ([] : List UInt8)) = true := bne_iff_ne.mpr c25
                    by_cases c27 : 0 < ((rdOf ByteArray.empty t195 1).size : Int)
                    · rw [if_pos c27] at H
                      have c27b0 : decide (0 < ((rdOf ByteArray.empty t195 1).size : Int)) = true := decide_eq_true c27
                      have c27b1 : decide (0 < (rdOf ByteArray.empty t195 1).size) = true := decide_eq_true (by omega)
                      clear c27
                      by_cases c29 : (bt (rdOf ByteArray.empty t195 1) 0) = 47
                      · rw [if_pos c29] at H
                        have c29b0 : ((bt (rdOf ByteArray.empty t195 1) 0) == 47) = true := beq_iff_eq.mpr c29
                        have c29b1 : ((bt (rdOf ByteArray.empty t195 1) 0) != 47) = false := bne_eq_false_iff_eq.mpr c29
                        clear c29
                        replace H := Option.bind_eq_some_iff.mp H
                        obtain ⟨t213, A300, H⟩ := H
                        replace H : (head_Parse.j1 kj9 l0 t195 (!t213)) = some (r1, r2, r3, r4, r5, r6, r7) := H
                        have A30 := Aside0.mk A300
                        clear A300
                        have H' := Aside0.mk H
                        clear H
                        obtain ⟨Ao31, co31, eo31⟩ := Kd.R_slice HO_3.out
                        subst eo31
                        have p208 : 0 ≤ (0 : Int) := (by omega)
                        have q208 : 0 < (t195.length : Int) := of_decide_eq_true (by first | (with_reducible assumption) | assumption)
                        obtain ⟨ad208, e208, hx208_0⟩ := Kd.at_string (Kd.R_reads' HO_3.out).2.2 0 p208 q208
                        cases e208
                        have qi208 : (0 < t195.length) = True := eq_true (by omega)
                        (try rw [show ((0 : Int)).toNat = 0 from rfl] at hx208_0)
                        (try rw [Addr.add_zero'] at hx208_0)
                        replace p208 := eq_true p208
                        replace q208 := eq_true q208
                        go_wp2_with (first | (go_at_call 28; (with_reducible refine (ascii_Token.calls kj9 (rdOf ByteArray.empty t195 0) true _ A22.out).mono ?_); rintro e w' ⟨rfl, ⟨nd, rfl⟩⟩; have p210 : 0 ≤ (1 : Int) := (by omega); have q210 : 1 < (t195.length : Int) := of_decide_eq_true (by first | (with_reducible assumption) | assumption); obtain ⟨ad210, e210, hx210_0⟩ := Kd.at_string (Kd.R_reads' HO_3.out).2.2 1 p210 q210; obtain rfl : ad208 = ad210 := (by injection e210); (try simp only [show (1 : Int).toNat = 1 from rfl, Nat.reduceMul, Nat.reduceEqDiff, Go.Addr.add, ↓reduceIte] at hx210_0); have qi210 : (1 < t195.length) = True := eq_true (by omega); (try rw [show ((1 : Int)).toNat = 1 from rfl] at hx210_0); replace p210 := eq_true p210; replace q210 := eq_true q210; have p211 : 0 ≤ (1 : Int) := (by omega); have q211 : 1 < (t195.length : Int) := of_decide_eq_true (by first | (with_reducible assumption) | assumption); obtain ⟨ad211, e211, hx211_0⟩ := Kd.at_string (Kd.R_reads' HO_3.out).2.2 1 p211 q211; obtain rfl : ad208 = ad211 := (by injection e211); (try simp only [show (1 : Int).toNat = 1 from rfl, Nat.reduceMul, Nat.reduceEqDiff, Go.Addr.add, ↓reduceIte] at hx211_0); have qi211 : (1 < t195.length) = True := eq_true (by omega); (try rw [show ((1 : Int)).toNat = 1 from rfl] at hx211_0); replace p211 := eq_true p211; replace q211 := eq_true q211; have p28 : 0 ≤ (0 : Int) := (by omega); have q28 : 0 < (rdOf ByteArray.empty t195 1).size := (by have : (0 : Int) < ((rdOf ByteArray.empty t195 1).size : Int) := of_decide_eq_true (by first | (with_reducible assumption) | assumption); omega); have hx28 : ∀ h : 0 < (rdOf ByteArray.empty t195 1).size, (((rdOf ByteArray.empty t195 1)[0]'h).toNat : Int) = bt (rdOf ByteArray.empty t195 1) 0 := bt_at (rdOf ByteArray.empty t195 1) 0; clear p28; have qi28 : (0 < ((rdOf ByteArray.empty t195 1).size : Int)) = True := eq_true (of_decide_eq_true (by first | (with_reducible assumption) | assumption)); replace q28 := eq_true q28; have p212 : 0 ≤ (1 : Int) := (by omega); have q212 : 1 < (t195.length : Int) := of_decide_eq_true (by first | (with_reducible assumption) | assumption); obtain ⟨ad212, e212, hx212_0⟩ := Kd.at_string (Kd.R_reads' HO_3.out).2.2 1 p212 q212; obtain rfl : ad208 = ad212 := (by injection e212); (try simp only [show (1 : Int).toNat = 1 from rfl, Nat.reduceMul, Nat.reduceEqDiff, Go.Addr.add, ↓reduceIte] at hx212_0); have qi212 : (1 < t195.length) = True := eq_true (by omega); (try rw [show ((1 : Int)).toNat = 1 from rfl] at hx212_0); replace p212 := eq_true p212; replace q212 := eq_true q212) | (go_at_call 29; (with_reducible refine (ascii_Value.calls (rdOf ByteArray.empty t195 1) t213 _ A30.out).mono ?_); rintro e w32 ⟨rfl, hb⟩; have n0_ := Aside0.mk (Kd.R_below (by (with_reducible repeat (first | apply Kd.R_alloc | apply Kd.R_drewN | apply Kd.R_drew)); exact HO_3.out) hb); have n1_ := Aside0.mk (blk_below (g := gb184) (o := .cells #[.string (⟨#[]⟩ : ByteArray), .string (⟨#[]⟩ : ByteArray), .slice none 0 0, .string (⟨#[]⟩ : ByteArray), .bool false, .int .i64 0, .int .i64 0] 50 (0, 0)) (by (with_reducible repeat (first | refine blk_drewN ?_ _ | refine blk_drew ?_ | refine blk_alloc ?_ _)); exact BK184.out) hb); have n2_ := Aside0.mk (below_step (by repeat (first | (with_reducible first | exact HB.out | apply below_alloc | apply pw_below_drewN | apply below_drew1 | refine below_set ?_ GE184.out) | exact HB.out)) hb); clear HO_3; clear BK184; clear HB; have HO_3 := n0_; have BK184 := n1_; have HB := n2_; clear n0_ n1_ n2_; (try clear hb); (try clear hb2); (try clear hk); (try clear hi)))
                        go_meet
                        case rel => exact ⟨_, (!t213), (by first | rfl | (simp; done) | (simp [*]; done)), H', ⟨by have := HJ9.out; first | omega | exact Nat.le_refl _⟩, ⟨by (with_reducible repeat (first | apply Kd.R_alloc | apply Kd.R_drewN | apply Kd.R_drew)); exact HO_3.out⟩, ⟨by (with_reducible repeat (first | refine blk_drewN ?_ _ | refine blk_drew ?_ | refine blk_alloc ?_ _)); exact BK184.out⟩, ⟨by repeat (first | (with_reducible first | exact HB.out | apply below_alloc | apply pw_below_drewN | apply below_drew1 | refine below_set ?_ GE184.out) | exact HB.out)⟩⟩
                      · rw [if_neg c29] at H
                        have c29b0 : ((bt (rdOf ByteArray.empty t195 1) 0) == 47) = false := beq_eq_false_iff_ne.mpr c29
                        have c29b1 : ((bt (rdOf ByteArray.empty t195 1) 0) != 47) = true := bne_iff_ne.mpr c29
                        have H' := Aside0.mk H
                        clear H
                        obtain ⟨Ao33, co33, eo33⟩ := Kd.R_slice HO_3.out
                        subst eo33
                        have p208 : 0 ≤ (0 : Int) := (by omega)
                        have q208 : 0 < (t195.length : Int) := of_decide_eq_true (by first | (with_reducible assumption) | assumption)
                        obtain ⟨ad208, e208, hx208_0⟩ := Kd.at_string (Kd.R_reads' HO_3.out).2.2 0 p208 q208
                        cases e208
                        have qi208 : (0 < t195.length) = True := eq_true (by omega)
                        (try rw [show ((0 : Int)).toNat = 0 from rfl] at hx208_0)
                        (try rw [Addr.add_zero'] at hx208_0)
                        replace p208 := eq_true p208
                        replace q208 := eq_true q208
                        go_wp2_with (first | (go_at_call 28; (with_reducible refine (ascii_Token.calls kj9 (rdOf ByteArray.empty t195 0) true _ A22.out).mono ?_); rintro e w' ⟨rfl, ⟨nd, rfl⟩⟩; have p210 : 0 ≤ (1 : Int) := (by omega); have q210 : 1 < (t195.length : Int) := of_decide_eq_true (by first | (with_reducible assumption) | assumption); obtain ⟨ad210, e210, hx210_0⟩ := Kd.at_string (Kd.R_reads' HO_3.out).2.2 1 p210 q210; obtain rfl : ad208 = ad210 := (by injection e210); (try simp only [show (1 : Int).toNat = 1 from rfl, Nat.reduceMul, Nat.reduceEqDiff, Go.Addr.add, ↓reduceIte] at hx210_0); have qi210 : (1 < t195.length) = True := eq_true (by omega); (try rw [show ((1 : Int)).toNat = 1 from rfl] at hx210_0); replace p210 := eq_true p210; replace q210 := eq_true q210; have p211 : 0 ≤ (1 : Int) := (by omega); have q211 : 1 < (t195.length : Int) := of_decide_eq_true (by first | (with_reducible assumption) | assumption); obtain ⟨ad211, e211, hx211_0⟩ := Kd.at_string (Kd.R_reads' HO_3.out).2.2 1 p211 q211; obtain rfl : ad208 = ad211 := (by injection e211); (try simp only [show (1 : Int).toNat = 1 from rfl, Nat.reduceMul, Nat.reduceEqDiff, Go.Addr.add, ↓reduceIte] at hx211_0); have qi211 : (1 < t195.length) = True := eq_true (by omega); (try rw [show ((1 : Int)).toNat = 1 from rfl] at hx211_0); replace p211 := eq_true p211; replace q211 := eq_true q211; have p28 : 0 ≤ (0 : Int) := (by omega); have q28 : 0 < (rdOf ByteArray.empty t195 1).size := (by have : (0 : Int) < ((rdOf ByteArray.empty t195 1).size : Int) := of_decide_eq_true (by first | (with_reducible assumption) | assumption); omega); have hx28 : ∀ h : 0 < (rdOf ByteArray.empty t195 1).size, (((rdOf ByteArray.empty t195 1)[0]'h).toNat : Int) = bt (rdOf ByteArray.empty t195 1) 0 := bt_at (rdOf ByteArray.empty t195 1) 0; clear p28; have qi28 : (0 < ((rdOf ByteArray.empty t195 1).size : Int)) = True := eq_true (of_decide_eq_true (by first | (with_reducible assumption) | assumption)); replace q28 := eq_true q28))
                        go_meet
                        case rel => exact ⟨_, (true), (by first | rfl | (simp; done) | (simp [*]; done)), H', ⟨by have := HJ9.out; first | omega | exact Nat.le_refl _⟩, ⟨by (with_reducible repeat (first | apply Kd.R_alloc | apply Kd.R_drewN | apply Kd.R_drew)); exact HO_3.out⟩, ⟨by (with_reducible repeat (first | refine blk_drewN ?_ _ | refine blk_drew ?_ | refine blk_alloc ?_ _)); exact BK184.out⟩, ⟨by repeat (first | (with_reducible first | exact HB.out | apply below_alloc | apply pw_below_drewN | apply below_drew1 | refine below_set ?_ GE184.out) | exact HB.out)⟩⟩
                    · rw [if_neg c27] at H
                      exact absurd H (by simp)
                · rw [if_neg c24] at H
                  exact absurd H (by simp)
              · replace c23 := Bool.eq_false_iff.mpr c23
                subst c23
                have H1 : (head_Parse.j1 kj9 l0 t195 true) = some (r1, r2, r3, r4, r5, r6, r7) := by rw [if_neg (show ¬ (false = true) by decide)] at H; exact H
                clear H
                have H := H1
                clear H1
                have H' := Aside0.mk H
                clear H
                obtain ⟨Ao34, co34, eo34⟩ := Kd.R_slice HO_3.out
                subst eo34
                have p208 : 0 ≤ (0 : Int) := (by omega)
                have q208 : 0 < (t195.length : Int) := of_decide_eq_true (by first | (with_reducible assumption) | assumption)
                obtain ⟨ad208, e208, hx208_0⟩ := Kd.at_string (Kd.R_reads' HO_3.out).2.2 0 p208 q208
                cases e208
                have qi208 : (0 < t195.length) = True := eq_true (by omega)
                (try rw [show ((0 : Int)).toNat = 0 from rfl] at hx208_0)
                (try rw [Addr.add_zero'] at hx208_0)
                replace p208 := eq_true p208
                replace q208 := eq_true q208
                go_wp2_with (first | (go_at_call 28; (with_reducible refine (ascii_Token.calls kj9 (rdOf ByteArray.empty t195 0) false _ A22.out).mono ?_); rintro e w' ⟨rfl, ⟨nd, rfl⟩⟩))
                go_meet
                case rel => exact ⟨_, (true), (by first | rfl | (simp; done) | (simp [*]; done)), H', ⟨by have := HJ9.out; first | omega | exact Nat.le_refl _⟩, ⟨by (with_reducible repeat (first | apply Kd.R_alloc | apply Kd.R_drewN | apply Kd.R_drew)); exact HO_3.out⟩, ⟨by (with_reducible repeat (first | refine blk_drewN ?_ _ | refine blk_drew ?_ | refine blk_alloc ?_ _)); exact BK184.out⟩, ⟨by repeat (first | (with_reducible first | exact HB.out | apply below_alloc | apply pw_below_drewN | apply below_drew1 | refine below_set ?_ GE184.out) | exact HB.out)⟩⟩
            · rw [if_neg c21] at H
              exact absurd H (by simp)
          · rw [if_neg c20] at H
            have c20b0 : ((t195.length : Int) == 3) = false := beq_eq_false_iff_ne.mpr c20
            have c20b1 : ((t195.length : Int) != 3) = true := bne_iff_ne.mpr c20
            (first | rw [c20b0] | (simp only [i64_w, i32_w]; rw [c20b0]) | skip)
            have H' := Aside0.mk H
            clear H
            obtain ⟨Ao35, co35, eo35⟩ := Kd.R_slice HO_3.out
            subst eo35
            go_wp2
            go_meet
            case rel => exact ⟨_, (true), (by first | rfl | (simp; done) | (simp [*]; done)), H', ⟨by have := HJ9.out; first | omega | exact Nat.le_refl _⟩, ⟨by (with_reducible repeat (first | apply Kd.R_alloc | apply Kd.R_drewN | apply Kd.R_drew)); exact HO_3.out⟩, ⟨by (with_reducible repeat (first | refine blk_drewN ?_ _ | refine blk_drew ?_ | refine blk_alloc ?_ _)); exact BK184.out⟩, ⟨by repeat (first | (with_reducible first | exact HB.out | apply below_alloc | apply pw_below_drewN | apply below_drew1 | refine below_set ?_ GE184.out) | exact HB.out)⟩⟩
         case rest =>
          clear HC19
          try clear c1
          try clear p1
          try clear q1
          try clear hx1
          try clear qi1
          try clear c2
          try clear c2b0
          try clear c2b1
          try clear c2b2
          try clear p2
          try clear q2
          try clear hx2
          try clear qi2
          try clear p6
          try clear c8
          try clear c8b0
          try clear c8b1
          try clear c13
          try clear c13b0
          try clear c13b1
          try clear c14
          try clear c18
          try clear p19
          try clear q19
          try clear hx19
          try clear qi19
          try clear c20
          try clear c20b0
          try clear c20b1
          try clear p20
          try clear q20
          try clear hx20
          try clear qi20
          try clear c21
          try clear c21b0
          try clear c21b1
          try clear p21
          try clear q21
          try clear hx21
          try clear qi21
          try clear c23
          try clear c24
          try clear c24b0
          try clear c24b1
          try clear c25
          try clear c25b0
          try clear c25b1
          try clear c26
          try clear c27
          try clear c27b0
          try clear c27b1
          try clear p28
          try clear q28
          try clear hx28
          try clear qi28
          try clear c29
          try clear c29b0
          try clear c29b1
          try clear hcz17_0
          try clear hcz17_1
          try clear hcz17_2
          try clear hcz17_3
          try clear hcz17_4
          try clear hcz17_5
          try clear hcz17_6
          try clear hcz6_0
          try clear hcz6_1
          try clear hcz6_2
          try clear hcz6_3
          try clear hcz6_4
          try clear hcz6_5
          try clear hcz6_6
          try clear hfz17_0
          try clear hfz17_1
          try clear hfz17_2
          try clear hfz17_3
          try clear hfz17_4
          try clear hfz17_5
          try clear hfz17_6
          try clear hfz6_0
          try clear hfz6_1
          try clear hfz6_2
          try clear hfz6_3
          try clear hfz6_4
          try clear hfz6_5
          try clear hfz6_6
          try clear hx194_0
          try clear hx198_0
          try clear hx208_0
          try clear hx210_0
          try clear hx211_0
          try clear hx212_0
          try clear p1
          try clear p194
          try clear p198
          try clear p2
          try clear p208
          try clear p210
          try clear p211
          try clear p212
          try clear p28
          try clear p6
          try clear q1
          try clear q194
          try clear q198
          try clear q208
          try clear q210
          try clear q211
          try clear q212
          try clear q28
          obtain ⟨kq, x30_18, rfl, HA, HJ18, HO_3, BK184, HB⟩ := hcut
          cases kq with
          | zero => exact absurd HA.out (by simp [head_Parse.j1])
          | succ kj18 =>
           have H := HA.out
           clear HA
           simp only [head_Parse.j1] at H
           by_cases c36 : x30_18 = true
           · subst c36
             have H1 : ((head_bad.f 400).bind fun bt214 => (some (bt214.1, bt214.2.1, bt214.2.2.1, bt214.2.2.2.1, bt214.2.2.2.2.1, bt214.2.2.2.2.2.1, bt214.2.2.2.2.2.2))) = some (r1, r2, r3, r4, r5, r6, r7) := by rw [if_pos rfl] at H; exact H
             clear H
             have H := H1
             clear H1
             replace H := Option.bind_eq_some_iff.mp H
             obtain ⟨⟨t214, t215, t216, t219, t220, t221, t222⟩, A370, H⟩ := H
             replace H : (some (t214, t215, t216, t219, t220, t221, t222)) = some (r1, r2, r3, r4, r5, r6, r7) := H
             have A37 := Aside0.mk A370
             clear A370
             simp only [Option.some.injEq, Prod.mk.injEq] at H
             obtain ⟨rfl, rfl, rfl, rfl, rfl, rfl, rfl⟩ := H
             go_wp2_with (first | ((with_reducible refine gate_callee (f := 26) rfl ?_); refine goesL_ (some 61) rfl rfl Tryd.func26 (by kernel_rfl) rfl #[.int .i64 400] rfl (by (try simp only [List.map_toArray, List.map_cons, List.map_nil]); first | done | rfl | (simp only [List.length_drop, List.length_take]; rfl)) ?_; (with_reducible refine (head_bad.calls 400 t214 t215 t216 t219 t220 t221 t222 _ A37.out).mono ?_); rintro e w38 ⟨v217, rfl, ho0, hb⟩; refine ⟨_, rfl, ?_⟩; have n0_ := Aside0.mk (Kd.R_below (by (with_reducible repeat (first | apply Kd.R_alloc | apply Kd.R_drewN | apply Kd.R_drew)); exact HO_3.out) hb); have n1_ := Aside0.mk (Kd.R_lower ho0 (below_size (by repeat (first | (with_reducible first | exact HB.out | apply below_alloc | apply pw_below_drewN | apply below_drew1 | refine below_set ?_ GE184.out) | exact HB.out)))); have n2_ := Aside0.mk (blk_below (g := gb184) (o := .cells #[.string (⟨#[]⟩ : ByteArray), .string (⟨#[]⟩ : ByteArray), .slice none 0 0, .string (⟨#[]⟩ : ByteArray), .bool false, .int .i64 0, .int .i64 0] 50 (0, 0)) (by (with_reducible repeat (first | refine blk_drewN ?_ _ | refine blk_drew ?_ | refine blk_alloc ?_ _)); exact BK184.out) hb); have n3_ := Aside0.mk (below_step (by repeat (first | (with_reducible first | exact HB.out | apply below_alloc | apply pw_below_drewN | apply below_drew1 | refine below_set ?_ GE184.out) | exact HB.out)) hb); clear HO_3; clear BK184; clear HB; have HO_3 := n0_; have HO218 := n1_; have BK184 := n2_; have HB := n3_; clear n0_ n1_ n2_ n3_; (try clear hb); (try clear hb2); (try clear hk); (try clear hi); (try clear ho0); have hcz39_0 : w38.cell? ⟨gb184, 0, none⟩ = some (.string (⟨#[]⟩ : ByteArray)) := (blk_cell BK184.out 0).trans rfl; have hcz39_1 : w38.cell? ⟨gb184, 1, none⟩ = some (.string (⟨#[]⟩ : ByteArray)) := (blk_cell BK184.out 1).trans rfl; have hcz39_2 : w38.cell? ⟨gb184, 2, none⟩ = some (.slice none 0 0) := (blk_cell BK184.out 2).trans rfl; have hcz39_3 : w38.cell? ⟨gb184, 3, none⟩ = some (.string (⟨#[]⟩ : ByteArray)) := (blk_cell BK184.out 3).trans rfl; have hcz39_4 : w38.cell? ⟨gb184, 4, none⟩ = some (.bool false) := (blk_cell BK184.out 4).trans rfl; have hcz39_5 : w38.cell? ⟨gb184, 5, none⟩ = some (.int .i64 0) := (blk_cell BK184.out 5).trans rfl; have hcz39_6 : w38.cell? ⟨gb184, 6, none⟩ = some (.int .i64 0) := (blk_cell BK184.out 6).trans rfl; have hfz39_0 := blk_frozen BK184.out 0; have hfz39_1 := blk_frozen BK184.out 1; have hfz39_2 := blk_frozen BK184.out 2; have hfz39_3 := blk_frozen BK184.out 3; have hfz39_4 := blk_frozen BK184.out 4; have hfz39_5 := blk_frozen BK184.out 5; have hfz39_6 := blk_frozen BK184.out 6; obtain ⟨Ao40, co40, eo40⟩ := Kd.R_slice HO218.out; subst eo40))
             refine bodyPost_ret (results_cell_row rfl _ _ gb184 50 #[.string t214, .string t215, .slice Ao40 t216.length co40, .string t219, .bool t220, .int .i64 t221, .int .i64 t222] (0, 0) _ rfl (by (with_reducible repeat (first | refine blk_drewN ?_ _ | refine blk_drew ?_ | refine blk_alloc ?_ _)); refine blk_put (cs := #[.string t214, .string t215, .slice Ao40 t216.length co40, .string t219, .bool t220, .int .i64 t221, .int .i64 0]) ?_ 6 _ rfl; (with_reducible repeat (first | refine blk_drewN ?_ _ | refine blk_drew ?_ | refine blk_alloc ?_ _)); refine blk_put (cs := #[.string t214, .string t215, .slice Ao40 t216.length co40, .string t219, .bool t220, .int .i64 0, .int .i64 0]) ?_ 5 _ rfl; (with_reducible repeat (first | refine blk_drewN ?_ _ | refine blk_drew ?_ | refine blk_alloc ?_ _)); refine blk_put (cs := #[.string t214, .string t215, .slice Ao40 t216.length co40, .string t219, .bool false, .int .i64 0, .int .i64 0]) ?_ 4 _ rfl; (with_reducible repeat (first | refine blk_drewN ?_ _ | refine blk_drew ?_ | refine blk_alloc ?_ _)); refine blk_put (cs := #[.string t214, .string t215, .slice Ao40 t216.length co40, .string (⟨#[]⟩ : ByteArray), .bool false, .int .i64 0, .int .i64 0]) ?_ 3 _ rfl; (with_reducible repeat (first | refine blk_drewN ?_ _ | refine blk_drew ?_ | refine blk_alloc ?_ _)); refine blk_put (cs := #[.string t214, .string t215, .slice none 0 0, .string (⟨#[]⟩ : ByteArray), .bool false, .int .i64 0, .int .i64 0]) ?_ 2 _ rfl; (with_reducible repeat (first | refine blk_drewN ?_ _ | refine blk_drew ?_ | refine blk_alloc ?_ _)); refine blk_put (cs := #[.string t214, .string (⟨#[]⟩ : ByteArray), .slice none 0 0, .string (⟨#[]⟩ : ByteArray), .bool false, .int .i64 0, .int .i64 0]) ?_ 1 _ rfl; (with_reducible repeat (first | refine blk_drewN ?_ _ | refine blk_drew ?_ | refine blk_alloc ?_ _)); refine blk_put (cs := #[.string (⟨#[]⟩ : ByteArray), .string (⟨#[]⟩ : ByteArray), .slice none 0 0, .string (⟨#[]⟩ : ByteArray), .bool false, .int .i64 0, .int .i64 0]) ?_ 0 _ rfl; (with_reducible repeat (first | refine blk_drewN ?_ _ | refine blk_drew ?_ | refine blk_alloc ?_ _)); exact BK184.out) Tryd.underlying50 rfl (by kernel_rfl)) rfl ?_
             exact ⟨_, by first | rfl | (simp [errW_none, errW_some] <;> rfl) | (simp [*, errW_none, errW_some] <;> rfl), by (with_reducible repeat (first | apply Kd.R_alloc | apply Kd.R_drewN | apply Kd.R_drew)); exact Kd.R_mono (Kd.R_far (p := ⟨gb184, 6, none⟩) (Kd.R_far (p := ⟨gb184, 5, none⟩) (Kd.R_far (p := ⟨gb184, 4, none⟩) (Kd.R_far (p := ⟨gb184, 3, none⟩) (Kd.R_far (p := ⟨gb184, 2, none⟩) (Kd.R_far (p := ⟨gb184, 1, none⟩) (Kd.R_far (p := ⟨gb184, 0, none⟩) (Kd.R_types HO218.out BK184.out (by decide)) (fun _ hk => hk.2) (.string t214)) (fun _ hk => hk.2) (.string t215)) (fun _ hk => hk.2) (.slice Ao40 t216.length co40)) (fun _ hk => hk.2) (.string t219)) (fun _ hk => hk.2) (.bool t220)) (fun _ hk => hk.2) (.int .i64 t221)) (fun _ hk => hk.2) (.int .i64 t222)) (fun _ hk => trivial), by repeat (first | (with_reducible first | exact HB.out | apply below_alloc | apply pw_below_drewN | apply below_drew1 | refine below_set ?_ GE184.out) | exact HB.out)⟩
           · replace c36 := Bool.eq_false_iff.mpr c36
             subst c36
             have H1 : (if 2 < (t195.length : Int) then (if (rdOf ByteArray.empty t195 2).toList = ([72, 84, 84, 80, 47, 49, 46, 49] : List UInt8) then (if 0 < (t195.length : Int) then (if 1 < (t195.length : Int) then (if 1 ≤ (l0.length : Int) then ((some (l0.drop 1 : List ByteArray)).bind fun y237 => (head_Parse.l0 kj18 y237 (y237.length : Int) 0 (rdOf ByteArray.empty t195 0) (rdOf ByteArray.empty t195 1) ([] : List (S62)) (⟨#[]⟩ : ByteArray) false 0 0)) else (none)) else (none)) else (none)) else ((head_bad.f 400).bind fun bt224 => (some (bt224.1, bt224.2.1, bt224.2.2.1, bt224.2.2.2.1, bt224.2.2.2.2.1, bt224.2.2.2.2.2.1, bt224.2.2.2.2.2.2)))) else (none)) = some (r1, r2, r3, r4, r5, r6, r7) := by rw [if_neg (show ¬ (false = true) by decide)] at H; exact H
             clear H
             have H := H1
             clear H1
             by_cases c41 : 2 < (t195.length : Int)
             · rw [if_pos c41] at H
               have c41b0 : decide (2 < (t195.length : Int)) = true := decide_eq_true c41
               have c41b1 : decide (2 < t195.length) = true := decide_eq_true (by omega)
               clear c41
               by_cases c42 : (rdOf ByteArray.empty t195 2).toList = ([72, 84, 84, 80, 47, 49, 46, 49] : List UInt8)
               · rw [if_pos c42] at H
                 have c42b0 : ((rdOf ByteArray.empty t195 2).toList == ([72, 84, 84, 80, 47, 49, 46, 49] : List UInt8)) = true := beq_iff_eq.mpr c42
                 have c42b1 : ((rdOf ByteArray.empty t195 2).toList != ([72, 84, 84, 80, 47, 49, 46, 49] : List UInt8)) = false := bne_eq_false_iff_eq.mpr c42
                 clear c42
                 by_cases c43 : 0 < (t195.length : Int)
                 · rw [if_pos c43] at H
                   have c43b0 : decide (0 < (t195.length : Int)) = true := decide_eq_true c43
                   have c43b1 : decide (0 < t195.length) = true := decide_eq_true (by omega)
                   clear c43
                   by_cases c44 : 1 < (t195.length : Int)
                   · rw [if_pos c44] at H
                     have c44b0 : decide (1 < (t195.length : Int)) = true := decide_eq_true c44
                     have c44b1 : decide (1 < t195.length) = true := decide_eq_true (by omega)
                     clear c44
                     by_cases c45 : 1 ≤ (l0.length : Int)
                     · rw [if_pos c45] at H
                       have c45b0 := eq_true c45
                       have c45b1 : decide (1 ≤ (l0.length : Int)) = true := decide_eq_true c45
                       clear c45
                       obtain ⟨y237, hy237⟩ : ∃ y_ : List ByteArray, y_ = (l0.drop 1) := ⟨_, rfl⟩
                       replace H : (head_Parse.l0 kj18 y237 (y237.length : Int) 0 (rdOf ByteArray.empty t195 0) (rdOf ByteArray.empty t195 1) ([] : List (S62)) (⟨#[]⟩ : ByteArray) false 0 0) = some (r1, r2, r3, r4, r5, r6, r7) := by first | (rw [hy237]; with_reducible exact H) | (have H2_ := (Option.bind_some _ _).symm.trans H; rw [hy237]; with_reducible exact H2_) | (have H2_ := (Option.bind_some _ _).symm.trans H; with_reducible exact H2_) | with_reducible exact H | (rw [hy237]; exact H) | exact H
                       have Ny237 := Aside0.mk hy237
                       clear hy237
                       have H' := Aside0.mk H
                       clear H
                       obtain ⟨Ao46, co46, eo46⟩ := Kd.R_slice HO_3.out
                       subst eo46
                       have p223 : 0 ≤ (2 : Int) := (by omega)
                       have q223 : 2 < (t195.length : Int) := of_decide_eq_true (by first | (with_reducible assumption) | assumption)
                       obtain ⟨ad223, e223, hx223_0⟩ := Kd.at_string (Kd.R_reads' HO_3.out).2.2 2 p223 q223
                       cases e223
                       (try simp only [show (2 : Int).toNat = 2 from rfl, Nat.reduceMul, Nat.reduceEqDiff, Go.Addr.add, ↓reduceIte] at hx223_0)
                       have qi223 : (2 < t195.length) = True := eq_true (by omega)
                       (try rw [show ((2 : Int)).toNat = 2 from rfl] at hx223_0)
                       replace p223 := eq_true p223
                       replace q223 := eq_true q223
                       try go_wp2
                       have n0_ := Aside0.mk (Kd.R_drew HO_3.out)
                       have n1_ := Aside0.mk (blk_drew BK184.out)
                       have n2_ := Aside0.mk (below_drew1 HB.out)
                       clear HO_3 BK184 HB
                       have HO_3 := n0_
                       have BK184 := n1_
                       have HB := n2_
                       clear n0_ n1_ n2_
                       have p233 : 0 ≤ (0 : Int) := (by omega)
                       have q233 : 0 < (t195.length : Int) := of_decide_eq_true (by first | (with_reducible assumption) | assumption)
                       obtain ⟨ad233, e233, hx233_0⟩ := Kd.at_string (Kd.R_reads' HO_3.out).2.2 0 p233 q233
                       obtain rfl : ad223 = ad233 := (by injection e233)
                       have qi233 : (0 < t195.length) = True := eq_true (by omega)
                       (try rw [show ((0 : Int)).toNat = 0 from rfl] at hx233_0)
                       (try rw [Addr.add_zero'] at hx233_0)
                       replace p233 := eq_true p233
                       replace q233 := eq_true q233
                       have p234 : 0 ≤ (1 : Int) := (by omega)
                       have q234 : 1 < (t195.length : Int) := of_decide_eq_true (by first | (with_reducible assumption) | assumption)
                       obtain ⟨ad234, e234, hx234_0⟩ := Kd.at_string (Kd.R_reads' HO_3.out).2.2 1 p234 q234
                       obtain rfl : ad223 = ad234 := (by injection e234)
                       (try simp only [show (1 : Int).toNat = 1 from rfl, Nat.reduceMul, Nat.reduceEqDiff, Go.Addr.add, ↓reduceIte] at hx234_0)
                       have qi234 : (1 < t195.length) = True := eq_true (by omega)
                       (try rw [show ((1 : Int)).toNat = 1 from rfl] at hx234_0)
                       replace p234 := eq_true p234
                       replace q234 := eq_true q234
                       refine start_ (n := 10) (S := fun w' => w'.cell? ad223 = some (.string (rdOf ByteArray.empty t195 0)) ∧ w'.cell? ⟨ad223.block, ad223.off + 1, none⟩ = some (.string (rdOf ByteArray.empty t195 1))) (ds := []) #[false, false, false, false, false, false, false, false, false, false] (by kernel_rfl) rfl rfl ⟨hx233_0, hx234_0⟩ (fun hHeld => ?_); refine with_tabW head_Parse.tab10 head_Parse.bits10 (fun HT_ HW_ => ?_)
                       generalize wc.drew = w47 at HO_3 BK184 HB hx233_0 hx234_0 hHeld ⊢
                       refine pure_ (i := 0) (N := some 68) (v := ?_) (a' := ?_) #[true, false, false, false, false, false, false, false, false, false] rfl rfl (any_of HT_.out (by kernel_rfl)) (fun _ _ _ h => h) (Or.inl ⟨by rfl, ?_⟩) ?_ ?_
                       rotate_left
                       · intro w'
                         go_simp
                         with_reducible rfl
                       rotate_left
                       · simp only [Act.put, List.setIfInBounds_toArray, List.set_cons_zero, List.set_cons_succ, i64_w, i32_w]
                         rfl
                       refine pure_ (i := 1) (N := some 69) (v := ?_) (a' := ?_) #[true, true, false, false, false, false, false, false, false, false] rfl rfl (any_of HT_.out (by kernel_rfl)) (fun _ _ _ h => h) (Or.inl ⟨by rfl, ?_⟩) ?_ ?_
                       rotate_left
                       · intro w'
                         go_simp
                         with_reducible rfl
                       rotate_left
                       · simp only [Act.put, List.setIfInBounds_toArray, List.set_cons_zero, List.set_cons_succ, i64_w, i32_w]
                         rfl
                       refine pure_ (i := 3) (N := some 71) (v := ?_) (a' := ?_) #[true, true, false, true, false, false, false, false, false, false] rfl rfl (any_of HT_.out (by kernel_rfl)) (fun _ _ _ h => h) (Or.inl ⟨by rfl, ?_⟩) ?_ ?_
                       rotate_left
                       · intro w'
                         go_simp
                         with_reducible rfl
                       rotate_left
                       · simp only [Act.put, List.setIfInBounds_toArray, List.set_cons_zero, List.set_cons_succ, i64_w, i32_w]
                         rfl
                       refine pure_ (i := 4) (N := some 72) (v := ?_) (a' := ?_) #[true, true, false, true, true, false, false, false, false, false] rfl rfl (any_of HT_.out (by kernel_rfl)) (fun _ _ _ h => h) (Or.inl ⟨by rfl, ?_⟩) ?_ ?_
                       rotate_left
                       · intro w'
                         go_simp
                         with_reducible rfl
                       rotate_left
                       · simp only [Act.put, List.setIfInBounds_toArray, List.set_cons_zero, List.set_cons_succ, i64_w, i32_w]
                         rfl
                       refine take_ (i := 2) (N := some 70) (v := ?_) (a' := ?_) #[true, true, true, true, true, false, false, false, false, false] rfl rfl (take_ofW HT_.out HW_.out (by kernel_rfl)) (fun _ _ _ h => h) (Or.inl ⟨by rfl, ?_⟩) hHeld ?_ ?_
                       rotate_left
                       · rintro w' ⟨s0, s1⟩
                         go_simp
                         with_reducible rfl
                       rotate_left
                       · simp only [Act.put, List.setIfInBounds_toArray, List.set_cons_zero, List.set_cons_succ, i64_w, i32_w]
                         rfl
                       refine take_ (i := 5) (N := some 73) (v := ?_) (a' := ?_) #[true, true, true, true, true, true, false, false, false, false] rfl rfl (take_ofW HT_.out HW_.out (by kernel_rfl)) (fun _ _ _ h => h) (Or.inl ⟨by rfl, ?_⟩) hHeld ?_ ?_
                       rotate_left
                       · rintro w' ⟨s0, s1⟩
                         go_simp
                         with_reducible rfl
                       rotate_left
                       · simp only [Act.put, List.setIfInBounds_toArray, List.set_cons_zero, List.set_cons_succ, i64_w, i32_w]
                         rfl
                       refine pure_ (i := 6) (N := some 74) (v := ?_) (a' := ?_) #[true, true, true, true, true, true, true, false, false, false] rfl rfl (any_of HT_.out (by kernel_rfl)) (fun _ _ _ h => h) (Or.inl ⟨by rfl, ?_⟩) ?_ ?_
                       rotate_left
                       · intro w'
                         go_simp
                         with_reducible rfl
                       rotate_left
                       · simp only [Act.put, List.setIfInBounds_toArray, List.set_cons_zero, List.set_cons_succ, i64_w, i32_w]
                         rfl
                       refine pure_ (i := 7) (N := some 75) (v := ?_) (a' := ?_) #[true, true, true, true, true, true, true, true, false, false] rfl rfl (any_of HT_.out (by kernel_rfl)) (fun _ _ _ h => h) (Or.inl ⟨by rfl, ?_⟩) ?_ ?_
                       rotate_left
                       · intro w'
                         go_simp
                         with_reducible rfl
                       rotate_left
                       · simp only [Act.put, List.setIfInBounds_toArray, List.set_cons_zero, List.set_cons_succ, i64_w, i32_w]
                         rfl
                       refine one_ (i := 8) (N := some 4) #[true, true, true, true, true, true, true, true, true, false] rfl rfl (one_of HT_.out (by kernel_rfl)) (by decide) (fun K hK => ?_)
                       refine box_step ?hg (N := 4) ?hd (cs := #[.string (⟨#[]⟩ : ByteArray), .string (⟨#[]⟩ : ByteArray), .slice none 0 0, .string (⟨#[]⟩ : ByteArray), .bool false, .int .i64 0, .int .i64 0]) (t := 50) ?hr ?_; (case hd => rfl); (case hg => rfl); (case hr => first | (go_simp; done) | (go_simp; rfl))
                       intro gb235 hg w48 hbox hb
                       have HS0_ := (hb.cell (World.block_lt_of_cell? _ _ (hHeld.1))).trans (hHeld.1)
                       have HS1_ := (hb.cell (World.block_lt_of_cell? _ _ (hHeld.2))).trans (hHeld.2)
                       have n0_ := Aside0.mk (Kd.R_below (by (with_reducible repeat (first | apply Kd.R_alloc | apply Kd.R_drewN | apply Kd.R_drew)); exact HO_3.out) hb)
                       have n1_ := Aside0.mk (blk_below (g := gb184) (o := .cells #[.string (⟨#[]⟩ : ByteArray), .string (⟨#[]⟩ : ByteArray), .slice none 0 0, .string (⟨#[]⟩ : ByteArray), .bool false, .int .i64 0, .int .i64 0] 50 (0, 0)) (by (with_reducible repeat (first | refine blk_drewN ?_ _ | refine blk_drew ?_ | refine blk_alloc ?_ _)); exact BK184.out) hb)
                       have n2_ := Aside0.mk (below_step (by repeat (first | (with_reducible first | exact HB.out | apply below_alloc | apply pw_below_drewN | apply below_drew1 | refine below_set ?_ GE184.out) | exact HB.out)) hb)
                       have n3_ := Aside0.mk (hbox)
                       have n4_ := Aside0.mk ((by rw [hg]; exact (below_size (by repeat (first | (with_reducible first | exact HB.out | apply below_alloc | apply pw_below_drewN | apply below_drew1 | refine below_set ?_ GE184.out) | exact HB.out))) : w.heap.size ≤ gb235))
                       have n5_ := Aside0.mk ((by rw [hg]; exact (below_size (by repeat (first | (with_reducible first | exact HB.out | apply below_alloc | apply pw_below_drewN | apply below_drew1 | refine below_set ?_ GE184.out) | exact HB.out))) : w.heap.size ≤ gb235))
                       have n6_ := Aside0.mk ((by rw [hg]; exact Nat.ne_of_lt (blk_lt (g := gb184) (o := .cells #[.string (⟨#[]⟩ : ByteArray), .string (⟨#[]⟩ : ByteArray), .slice none 0 0, .string (⟨#[]⟩ : ByteArray), .bool false, .int .i64 0, .int .i64 0] 50 (0, 0)) (by (with_reducible repeat (first | refine blk_drewN ?_ _ | refine blk_drew ?_ | refine blk_alloc ?_ _)); exact BK184.out)) : gb184 ≠ gb235))
                       have n7_ := Aside0.mk ((by rw [hg]; exact Nat.ne_of_gt (blk_lt (g := gb184) (o := .cells #[.string (⟨#[]⟩ : ByteArray), .string (⟨#[]⟩ : ByteArray), .slice none 0 0, .string (⟨#[]⟩ : ByteArray), .bool false, .int .i64 0, .int .i64 0] 50 (0, 0)) (by (with_reducible repeat (first | refine blk_drewN ?_ _ | refine blk_drew ?_ | refine blk_alloc ?_ _)); exact BK184.out)) : gb235 ≠ gb184))
                       clear HO_3 BK184 HB
                       have HO_3 := n0_
                       have BK184 := n1_
                       have HB := n2_
                       have BK235 := n3_
                       have GW235 := n4_
                       have GE235 := n5_
                       have NB184_235 := n6_
                       have NB235_184 := n7_
                       clear n0_ n1_ n2_ n3_ n4_ n5_ n6_ n7_ hb hbox hg
                       refine hK.out _ _ ⟨HS0_, HS1_⟩ (fun hHeld => ?_)
                       clear hK K
                       refine norm_ (a' := ?_) ?_ ?_
                       rotate_left
                       · show Act.put _ (some 4) _ = _
                         simp only [Act.put, List.setIfInBounds_toArray, List.set_cons_zero, List.set_cons_succ, i64_w, i32_w]
                         rfl
                       refine one_ (i := 9) (N := none) #[true, true, true, true, true, true, true, true, true, true] rfl rfl (one_of HT_.out (by kernel_rfl)) (by decide) (fun K hK => ?_)
                       have hs49 : w48.cell? ⟨gb235, 0, none⟩ = some (.string (⟨#[]⟩ : ByteArray)) := (blk_cell BK235.out 0).trans rfl
                       have hfs49 := blk_frozen BK235.out 0
                       have hns49_0 := NB184_235.out
                       have hms49_0 := NB235_184.out
                       have hs50 : w48.cell? ⟨gb235, 1, none⟩ = some (.string (⟨#[]⟩ : ByteArray)) := (blk_cell BK235.out 1).trans rfl
                       have hfs50 := blk_frozen BK235.out 1
                       have hns50_0 := NB184_235.out
                       have hms50_0 := NB235_184.out
                       have hs51 : w48.cell? ⟨gb235, 2, none⟩ = some (.slice none 0 0) := (blk_cell BK235.out 2).trans rfl
                       have hfs51 := blk_frozen BK235.out 2
                       have hns51_0 := NB184_235.out
                       have hms51_0 := NB235_184.out
                       have hs52 : w48.cell? ⟨gb235, 3, none⟩ = some (.string (⟨#[]⟩ : ByteArray)) := (blk_cell BK235.out 3).trans rfl
                       have hfs52 := blk_frozen BK235.out 3
                       have hns52_0 := NB184_235.out
                       have hms52_0 := NB235_184.out
                       have hs53 : w48.cell? ⟨gb235, 4, none⟩ = some (.bool false) := (blk_cell BK235.out 4).trans rfl
                       have hfs53 := blk_frozen BK235.out 4
                       have hns53_0 := NB184_235.out
                       have hms53_0 := NB235_184.out
                       have hs54 : w48.cell? ⟨gb235, 5, none⟩ = some (.int .i64 0) := (blk_cell BK235.out 5).trans rfl
                       have hfs54 := blk_frozen BK235.out 5
                       have hns54_0 := NB184_235.out
                       have hms54_0 := NB235_184.out
                       have hs55 : w48.cell? ⟨gb235, 6, none⟩ = some (.int .i64 0) := (blk_cell BK235.out 6).trans rfl
                       have hfs55 := blk_frozen BK235.out 6
                       have hns55_0 := NB184_235.out
                       have hms55_0 := NB235_184.out
                       refine skip_ (w1 := ?_) (by rfl) rfl ?_ ?_
                       rotate_left
                       · go_simp
                         rfl
                       refine hK.out _ _ ⟨((cell_far (p := ⟨gb235, _, none⟩) (by first | exact Kd.own_blk (Kd.R_ne HO_3.out BK235.out (by decide)) | (rw [add_block]; exact Kd.own_blk (Kd.R_ne HO_3.out BK235.out (by decide))) | (show (Addr.add _ _).block ≠ _; rw [add_block]; exact Kd.own_blk (Kd.R_ne HO_3.out BK235.out (by decide))) | (dsimp only; exact Kd.own_blk (Kd.R_ne HO_3.out BK235.out (by decide)))) _).trans (((cell_far (p := ⟨gb235, _, none⟩) (by first | exact Kd.own_blk (Kd.R_ne HO_3.out BK235.out (by decide)) | (rw [add_block]; exact Kd.own_blk (Kd.R_ne HO_3.out BK235.out (by decide))) | (show (Addr.add _ _).block ≠ _; rw [add_block]; exact Kd.own_blk (Kd.R_ne HO_3.out BK235.out (by decide))) | (dsimp only; exact Kd.own_blk (Kd.R_ne HO_3.out BK235.out (by decide)))) _).trans (((cell_far (p := ⟨gb235, _, none⟩) (by first | exact Kd.own_blk (Kd.R_ne HO_3.out BK235.out (by decide)) | (rw [add_block]; exact Kd.own_blk (Kd.R_ne HO_3.out BK235.out (by decide))) | (show (Addr.add _ _).block ≠ _; rw [add_block]; exact Kd.own_blk (Kd.R_ne HO_3.out BK235.out (by decide))) | (dsimp only; exact Kd.own_blk (Kd.R_ne HO_3.out BK235.out (by decide)))) _).trans (((cell_far (p := ⟨gb235, _, none⟩) (by first | exact Kd.own_blk (Kd.R_ne HO_3.out BK235.out (by decide)) | (rw [add_block]; exact Kd.own_blk (Kd.R_ne HO_3.out BK235.out (by decide))) | (show (Addr.add _ _).block ≠ _; rw [add_block]; exact Kd.own_blk (Kd.R_ne HO_3.out BK235.out (by decide))) | (dsimp only; exact Kd.own_blk (Kd.R_ne HO_3.out BK235.out (by decide)))) _).trans (((cell_far (p := ⟨gb235, _, none⟩) (by first | exact Kd.own_blk (Kd.R_ne HO_3.out BK235.out (by decide)) | (rw [add_block]; exact Kd.own_blk (Kd.R_ne HO_3.out BK235.out (by decide))) | (show (Addr.add _ _).block ≠ _; rw [add_block]; exact Kd.own_blk (Kd.R_ne HO_3.out BK235.out (by decide))) | (dsimp only; exact Kd.own_blk (Kd.R_ne HO_3.out BK235.out (by decide)))) _).trans (((cell_far (p := ⟨gb235, _, none⟩) (by first | exact Kd.own_blk (Kd.R_ne HO_3.out BK235.out (by decide)) | (rw [add_block]; exact Kd.own_blk (Kd.R_ne HO_3.out BK235.out (by decide))) | (show (Addr.add _ _).block ≠ _; rw [add_block]; exact Kd.own_blk (Kd.R_ne HO_3.out BK235.out (by decide))) | (dsimp only; exact Kd.own_blk (Kd.R_ne HO_3.out BK235.out (by decide)))) _).trans (((cell_far (p := ⟨gb235, _, none⟩) (by first | exact Kd.own_blk (Kd.R_ne HO_3.out BK235.out (by decide)) | (rw [add_block]; exact Kd.own_blk (Kd.R_ne HO_3.out BK235.out (by decide))) | (show (Addr.add _ _).block ≠ _; rw [add_block]; exact Kd.own_blk (Kd.R_ne HO_3.out BK235.out (by decide))) | (dsimp only; exact Kd.own_blk (Kd.R_ne HO_3.out BK235.out (by decide)))) _).trans (hHeld.1)))))))))))))), ((cell_far (p := ⟨gb235, _, none⟩) (by first | exact Kd.own_blk (Kd.R_ne HO_3.out BK235.out (by decide)) | (rw [add_block]; exact Kd.own_blk (Kd.R_ne HO_3.out BK235.out (by decide))) | (show (Addr.add _ _).block ≠ _; rw [add_block]; exact Kd.own_blk (Kd.R_ne HO_3.out BK235.out (by decide))) | (dsimp only; exact Kd.own_blk (Kd.R_ne HO_3.out BK235.out (by decide)))) _).trans (((cell_far (p := ⟨gb235, _, none⟩) (by first | exact Kd.own_blk (Kd.R_ne HO_3.out BK235.out (by decide)) | (rw [add_block]; exact Kd.own_blk (Kd.R_ne HO_3.out BK235.out (by decide))) | (show (Addr.add _ _).block ≠ _; rw [add_block]; exact Kd.own_blk (Kd.R_ne HO_3.out BK235.out (by decide))) | (dsimp only; exact Kd.own_blk (Kd.R_ne HO_3.out BK235.out (by decide)))) _).trans (((cell_far (p := ⟨gb235, _, none⟩) (by first | exact Kd.own_blk (Kd.R_ne HO_3.out BK235.out (by decide)) | (rw [add_block]; exact Kd.own_blk (Kd.R_ne HO_3.out BK235.out (by decide))) | (show (Addr.add _ _).block ≠ _; rw [add_block]; exact Kd.own_blk (Kd.R_ne HO_3.out BK235.out (by decide))) | (dsimp only; exact Kd.own_blk (Kd.R_ne HO_3.out BK235.out (by decide)))) _).trans (((cell_far (p := ⟨gb235, _, none⟩) (by first | exact Kd.own_blk (Kd.R_ne HO_3.out BK235.out (by decide)) | (rw [add_block]; exact Kd.own_blk (Kd.R_ne HO_3.out BK235.out (by decide))) | (show (Addr.add _ _).block ≠ _; rw [add_block]; exact Kd.own_blk (Kd.R_ne HO_3.out BK235.out (by decide))) | (dsimp only; exact Kd.own_blk (Kd.R_ne HO_3.out BK235.out (by decide)))) _).trans (((cell_far (p := ⟨gb235, _, none⟩) (by first | exact Kd.own_blk (Kd.R_ne HO_3.out BK235.out (by decide)) | (rw [add_block]; exact Kd.own_blk (Kd.R_ne HO_3.out BK235.out (by decide))) | (show (Addr.add _ _).block ≠ _; rw [add_block]; exact Kd.own_blk (Kd.R_ne HO_3.out BK235.out (by decide))) | (dsimp only; exact Kd.own_blk (Kd.R_ne HO_3.out BK235.out (by decide)))) _).trans (((cell_far (p := ⟨gb235, _, none⟩) (by first | exact Kd.own_blk (Kd.R_ne HO_3.out BK235.out (by decide)) | (rw [add_block]; exact Kd.own_blk (Kd.R_ne HO_3.out BK235.out (by decide))) | (show (Addr.add _ _).block ≠ _; rw [add_block]; exact Kd.own_blk (Kd.R_ne HO_3.out BK235.out (by decide))) | (dsimp only; exact Kd.own_blk (Kd.R_ne HO_3.out BK235.out (by decide)))) _).trans (((cell_far (p := ⟨gb235, _, none⟩) (by first | exact Kd.own_blk (Kd.R_ne HO_3.out BK235.out (by decide)) | (rw [add_block]; exact Kd.own_blk (Kd.R_ne HO_3.out BK235.out (by decide))) | (show (Addr.add _ _).block ≠ _; rw [add_block]; exact Kd.own_blk (Kd.R_ne HO_3.out BK235.out (by decide))) | (dsimp only; exact Kd.own_blk (Kd.R_ne HO_3.out BK235.out (by decide)))) _).trans (hHeld.2))))))))))))))⟩ (fun hHeld => ?_)
                       clear hK K
                       refine done_ (done_of HT_.out (by kernel_rfl)) ?_
                       obtain ⟨i056, hi056, _, hsz56, _⟩ := info_parts info9
                       obtain ⟨A56, hcut56, hA56, hC56⟩ := print_drop_of (P := Tryd.prog) Value.string (⟨#[]⟩ : ByteArray) 57 9 .i64 Tryd.underlying57 hi056 hsz56 (some ad194) c0 l0 1 (by omega) (of_decide_eq_true (by first | (with_reducible assumption) | assumption)) HC0.out
                       have HR236 := Aside0.mk (Kd.C_of_reads (h1 := fun _ => rfl) (hA56 _ (Kd.reads_of_C HR0.out)))
                       have HC236 := Aside0.mk hC56
                       clear hA56 hC56 hi056 hsz56
                       have hD_ : l0.drop (1 : Int).toNat = y237 := Ny237.out.symm
                       rw [hD_] at hcut56
                       have n_ : Aside0 (Kd.C Kd.string _ A56 y237.length y237) := ⟨by have h_ := HR236.out; rw [hD_] at h_; exact h_⟩
                       clear HR236
                       have HR236 := n_
                       clear n_
                       have n_ : Aside0 (y237.length ≤ (c0 - 1)) := ⟨by have h_ := HC236.out; rw [hD_] at h_; exact h_⟩
                       clear HC236
                       have HC236 := n_
                       clear n_ hD_
                       try go_wp2
                       go_loopg [79] kj18 (fun kq v79 w' => ∃ (x79_3 : Int) (x185000_3 : ByteArray) (x185001_3 : ByteArray) (x185003_3 : ByteArray) (x185004_3 : Bool) (x185005_3 : Int) (x185006_3 : Int) (x236002_3 : List (S62)) (u236002 : Value), v79 = .int .i64 x79_3 ∧ Aside0 (head_Parse.l0 kq y237 (y237.length : Int) x79_3 (rdOf ByteArray.empty t195 0) (rdOf ByteArray.empty t195 1) x236002_3 (⟨#[]⟩ : ByteArray) false 0 0 = some (r1, r2, r3, r4, r5, r6, r7)) ∧ Aside0 (kq ≤ kj18) ∧ Aside0 (Kd.R k62 62 w' w.heap.size (fun _ => True) u236002 x236002_3) ∧ Aside0 (w'.heap[gb184]? = some (.cells #[.string x185000_3, .string x185001_3, (.slice none 0 0), .string x185003_3, .bool x185004_3, .int .i64 x185005_3, .int .i64 x185006_3] 50 (0, 0))) ∧ Aside0 (w'.heap[gb235]? = some (.cells #[.string (rdOf ByteArray.empty t195 0), .string (rdOf ByteArray.empty t195 1), u236002, .string (⟨#[]⟩ : ByteArray), .bool false, .int .i64 0, .int .i64 0] 50 (0, 0))) ∧ Aside0 (Below w.heap.size w w'))
                       case atStart => exact ⟨(0), ((⟨#[]⟩ : ByteArray)), ((⟨#[]⟩ : ByteArray)), ((⟨#[]⟩ : ByteArray)), (false), (0), (0), (([] : List (S62))), (.slice none 0 0), (by first | rfl | (simp; done) | (simp [*]; done)), H', ⟨Nat.le_refl _⟩, ⟨by first | exact Kd.R_nil _ _ _ _ _ | exact Kd.N_nil _ _ _ _ _ | exact Kd.V_nil _ _ _ _ _ | exact Kd.Q_nil _ _ _ _ _ | exact Kd.S_nil _ _ _ _ _⟩, ⟨by (with_reducible repeat (first | refine blk_drewN ?_ _ | refine blk_drew ?_ | refine blk_alloc ?_ _)); refine blk_far ?_ NB184_235.out _; (with_reducible repeat (first | refine blk_drewN ?_ _ | refine blk_drew ?_ | refine blk_alloc ?_ _)); refine blk_far ?_ NB184_235.out _; (with_reducible repeat (first | refine blk_drewN ?_ _ | refine blk_drew ?_ | refine blk_alloc ?_ _)); refine blk_far ?_ NB184_235.out _; (with_reducible repeat (first | refine blk_drewN ?_ _ | refine blk_drew ?_ | refine blk_alloc ?_ _)); refine blk_far ?_ NB184_235.out _; (with_reducible repeat (first | refine blk_drewN ?_ _ | refine blk_drew ?_ | refine blk_alloc ?_ _)); refine blk_far ?_ NB184_235.out _; (with_reducible repeat (first | refine blk_drewN ?_ _ | refine blk_drew ?_ | refine blk_alloc ?_ _)); refine blk_far ?_ NB184_235.out _; (with_reducible repeat (first | refine blk_drewN ?_ _ | refine blk_drew ?_ | refine blk_alloc ?_ _)); refine blk_far ?_ NB184_235.out _; (with_reducible repeat (first | refine blk_drewN ?_ _ | refine blk_drew ?_ | refine blk_alloc ?_ _)); exact BK184.out⟩, ⟨by (with_reducible repeat (first | refine blk_drewN ?_ _ | refine blk_drew ?_ | refine blk_alloc ?_ _)); refine blk_put (cs := #[.string (rdOf ByteArray.empty t195 0), .string (rdOf ByteArray.empty t195 1), .slice none 0 0, .string (⟨#[]⟩ : ByteArray), .bool false, .int .i64 0, .int .i64 0]) ?_ 6 _ rfl; (with_reducible repeat (first | refine blk_drewN ?_ _ | refine blk_drew ?_ | refine blk_alloc ?_ _)); refine blk_put (cs := #[.string (rdOf ByteArray.empty t195 0), .string (rdOf ByteArray.empty t195 1), .slice none 0 0, .string (⟨#[]⟩ : ByteArray), .bool false, .int .i64 0, .int .i64 0]) ?_ 5 _ rfl; (with_reducible repeat (first | refine blk_drewN ?_ _ | refine blk_drew ?_ | refine blk_alloc ?_ _)); refine blk_put (cs := #[.string (rdOf ByteArray.empty t195 0), .string (rdOf ByteArray.empty t195 1), .slice none 0 0, .string (⟨#[]⟩ : ByteArray), .bool false, .int .i64 0, .int .i64 0]) ?_ 4 _ rfl; (with_reducible repeat (first | refine blk_drewN ?_ _ | refine blk_drew ?_ | refine blk_alloc ?_ _)); refine blk_put (cs := #[.string (rdOf ByteArray.empty t195 0), .string (rdOf ByteArray.empty t195 1), .slice none 0 0, .string (⟨#[]⟩ : ByteArray), .bool false, .int .i64 0, .int .i64 0]) ?_ 3 _ rfl; (with_reducible repeat (first | refine blk_drewN ?_ _ | refine blk_drew ?_ | refine blk_alloc ?_ _)); refine blk_put (cs := #[.string (rdOf ByteArray.empty t195 0), .string (rdOf ByteArray.empty t195 1), .slice none 0 0, .string (⟨#[]⟩ : ByteArray), .bool false, .int .i64 0, .int .i64 0]) ?_ 2 _ rfl; (with_reducible repeat (first | refine blk_drewN ?_ _ | refine blk_drew ?_ | refine blk_alloc ?_ _)); refine blk_put (cs := #[.string (rdOf ByteArray.empty t195 0), .string (⟨#[]⟩ : ByteArray), .slice none 0 0, .string (⟨#[]⟩ : ByteArray), .bool false, .int .i64 0, .int .i64 0]) ?_ 1 _ rfl; (with_reducible repeat (first | refine blk_drewN ?_ _ | refine blk_drew ?_ | refine blk_alloc ?_ _)); refine blk_put (cs := #[.string (⟨#[]⟩ : ByteArray), .string (⟨#[]⟩ : ByteArray), .slice none 0 0, .string (⟨#[]⟩ : ByteArray), .bool false, .int .i64 0, .int .i64 0]) ?_ 0 _ rfl; (with_reducible repeat (first | refine blk_drewN ?_ _ | refine blk_drew ?_ | refine blk_alloc ?_ _)); exact BK235.out⟩, ⟨by repeat (first | (with_reducible first | exact HB.out | apply below_alloc | apply pw_below_drewN | apply below_drew1 | refine below_set ?_ GE184.out | refine below_set ?_ GE235.out) | exact HB.out)⟩⟩
                       case round =>
                        clear H'
                        try clear c1
                        try clear p1
                        try clear q1
                        try clear hx1
                        try clear qi1
                        try clear c2
                        try clear c2b0
                        try clear c2b1
                        try clear c2b2
                        try clear p2
                        try clear q2
                        try clear hx2
                        try clear qi2
                        try clear c3
                        try clear c4
                        try clear p6
                        try clear c8
                        try clear c8b0
                        try clear c8b1
                        try clear c13
                        try clear c13b0
                        try clear c13b1
                        try clear c14
                        try clear c18
                        try clear p19
                        try clear q19
                        try clear hx19
                        try clear qi19
                        try clear c20
                        try clear c20b0
                        try clear c20b1
                        try clear p20
                        try clear q20
                        try clear hx20
                        try clear qi20
                        try clear c21
                        try clear c21b0
                        try clear c21b1
                        try clear p21
                        try clear q21
                        try clear hx21
                        try clear qi21
                        try clear p22
                        try clear q22
                        try clear hx22
                        try clear qi22
                        try clear c23
                        try clear p23
                        try clear q23
                        try clear hx23
                        try clear qi23
                        try clear c24
                        try clear c24b0
                        try clear c24b1
                        try clear c25
                        try clear c25b0
                        try clear c25b1
                        try clear c26
                        try clear c27
                        try clear c27b0
                        try clear c27b1
                        try clear p28
                        try clear q28
                        try clear hx28
                        try clear qi28
                        try clear c29
                        try clear c29b0
                        try clear c29b1
                        try clear c36
                        try clear c41
                        try clear c41b0
                        try clear c41b1
                        try clear c42
                        try clear c42b0
                        try clear c42b1
                        try clear c43
                        try clear c43b0
                        try clear c43b1
                        try clear c44
                        try clear c44b0
                        try clear c44b1
                        try clear c45
                        try clear c45b0
                        try clear c45b1
                        try clear hcz17_0
                        try clear hcz17_1
                        try clear hcz17_2
                        try clear hcz17_3
                        try clear hcz17_4
                        try clear hcz17_5
                        try clear hcz17_6
                        try clear hcz39_0
                        try clear hcz39_1
                        try clear hcz39_2
                        try clear hcz39_3
                        try clear hcz39_4
                        try clear hcz39_5
                        try clear hcz39_6
                        try clear hcz6_0
                        try clear hcz6_1
                        try clear hcz6_2
                        try clear hcz6_3
                        try clear hcz6_4
                        try clear hcz6_5
                        try clear hcz6_6
                        try clear hfz17_0
                        try clear hfz17_1
                        try clear hfz17_2
                        try clear hfz17_3
                        try clear hfz17_4
                        try clear hfz17_5
                        try clear hfz17_6
                        try clear hfz39_0
                        try clear hfz39_1
                        try clear hfz39_2
                        try clear hfz39_3
                        try clear hfz39_4
                        try clear hfz39_5
                        try clear hfz39_6
                        try clear hfz6_0
                        try clear hfz6_1
                        try clear hfz6_2
                        try clear hfz6_3
                        try clear hfz6_4
                        try clear hfz6_5
                        try clear hfz6_6
                        try clear hx194_0
                        try clear hx198_0
                        try clear hx208_0
                        try clear hx210_0
                        try clear hx211_0
                        try clear hx212_0
                        try clear hx223_0
                        try clear hx233_0
                        try clear hx234_0
                        try clear p1
                        try clear p19
                        try clear p194
                        try clear p198
                        try clear p2
                        try clear p20
                        try clear p208
                        try clear p21
                        try clear p210
                        try clear p211
                        try clear p212
                        try clear p223
                        try clear p233
                        try clear p234
                        try clear p28
                        try clear p6
                        try clear q1
                        try clear q19
                        try clear q194
                        try clear q198
                        try clear q2
                        try clear q20
                        try clear q208
                        try clear q21
                        try clear q210
                        try clear q211
                        try clear q212
                        try clear q223
                        try clear q233
                        try clear q234
                        try clear q28
                        obtain ⟨x79_3, x185000_3, x185001_3, x185003_3, x185004_3, x185005_3, x185006_3, x236002_3, u236002, rfl, HA, HK3, HO_236002, BK184, BK235, HB⟩ := hrel
                        cases gk with
                        | zero => exact absurd HA.out (by simp [head_Parse.l0])
                        | succ k3 =>
                         have H := HA.out
                         clear HA
                         simp only [head_Parse.l0] at H
                         by_cases c57 : x79_3 < (y237.length : Int)
                         · rw [if_pos c57] at H
                           have c57b0 : decide (x79_3 < (y237.length : Int)) = true := decide_eq_true c57
                           clear c57
                           by_cases c58 : 0 ≤ x79_3
                           · rw [if_pos c58] at H
                             have c58b0 : decide (0 ≤ x79_3) = true := decide_eq_true c58
                             clear c58
                             by_cases c59 : x79_3 < (y237.length : Int)
                             · rw [if_pos c59] at H
                               have c59b0 : decide (x79_3 < (y237.length : Int)) = true := decide_eq_true c59
                               clear c59
                               replace H := Option.bind_eq_some_iff.mp H
                               obtain ⟨⟨t248, t249, t250⟩, A600, H⟩ := H
                               replace H : (if t250 = true then (if x236002_3.length < 4398046511104 then (head_Parse.l0 k3 y237 (y237.length : Int) (wrap64 (x79_3 + 1)) (rdOf ByteArray.empty t195 0) (rdOf ByteArray.empty t195 1) (x236002_3 ++ [(⟨t248, t249⟩ : S62)]) (⟨#[]⟩ : ByteArray) false 0 0) else (none)) else ((head_bad.f 400).bind fun bt255 => (some (bt255.1, bt255.2.1, bt255.2.2.1, bt255.2.2.2.1, bt255.2.2.2.2.1, bt255.2.2.2.2.2.1, bt255.2.2.2.2.2.2)))) = some (r1, r2, r3, r4, r5, r6, r7) := H
                               have A60 := Aside0.mk A600
                               clear A600
                               by_cases c61 : t250 = true
                               · subst c61
                                 have H1 : (if x236002_3.length < 4398046511104 then (head_Parse.l0 k3 y237 (y237.length : Int) (wrap64 (x79_3 + 1)) (rdOf ByteArray.empty t195 0) (rdOf ByteArray.empty t195 1) (x236002_3 ++ [(⟨t248, t249⟩ : S62)]) (⟨#[]⟩ : ByteArray) false 0 0) else (none)) = some (r1, r2, r3, r4, r5, r6, r7) := by rw [if_pos rfl] at H; exact H
                                 clear H
                                 have H := H1
                                 clear H1
                                 by_cases c62 : x236002_3.length < 4398046511104
                                 · rw [if_pos c62] at H
                                   have LMc62 := Aside0.mk c62
                                   clear c62
                                   obtain ⟨y252, hy252⟩ : ∃ y_ : List (S62), y_ = (x236002_3 ++ [(⟨t248, t249⟩ : S62)]) := ⟨_, rfl⟩
                                   replace H : (head_Parse.l0 k3 y237 (y237.length : Int) (wrap64 (x79_3 + 1)) (rdOf ByteArray.empty t195 0) (rdOf ByteArray.empty t195 1) y252 (⟨#[]⟩ : ByteArray) false 0 0) = some (r1, r2, r3, r4, r5, r6, r7) := by first | (rw [hy252]; with_reducible exact H) | (have H2_ := (Option.bind_some _ _).symm.trans H; rw [hy252]; with_reducible exact H2_) | (have H2_ := (Option.bind_some _ _).symm.trans H; with_reducible exact H2_) | with_reducible exact H | (rw [hy252]; exact H) | exact H
                                   have Ny252 := Aside0.mk hy252
                                   clear hy252
                                   have H' := Aside0.mk H
                                   clear H
                                   have p247 : 0 ≤ (x79_3 : Int) := of_decide_eq_true (by first | (with_reducible assumption) | assumption)
                                   have q247 : x79_3 < (y237.length : Int) := of_decide_eq_true (by first | (with_reducible assumption) | assumption)
                                   obtain ⟨ad247, e247, hx247_0⟩ := Kd.at_string HR236.out x79_3 p247 q247
                                   cases e247
                                   replace hx247_0 := (HB.out.cell (World.block_lt_of_cell? w _ hx247_0)).trans hx247_0
                                   replace p247 := eq_true p247
                                   replace q247 := eq_true q247
                                   go_wp2_with (first | ((with_reducible refine gate_callee (f := 30) rfl ?_); refine goesL_ (some 85) rfl rfl Tryd.func30 (by kernel_rfl) rfl #[.string (rdOf ByteArray.empty y237 x79_3)] rfl (by (try simp only [List.map_toArray, List.map_cons, List.map_nil]); first | done | rfl | (simp only [List.length_drop, List.length_take]; rfl)) ?_; (with_reducible refine (head_field.calls k3 (rdOf ByteArray.empty y237 x79_3) t248 t249 true _ A60.out).mono ?_); rintro e w63 ⟨rfl, hb⟩; refine ⟨_, rfl, ?_⟩; have n0_ := Aside0.mk (Kd.R_below (by (with_reducible repeat (first | apply Kd.R_alloc | apply Kd.R_drewN | apply Kd.R_drew)); exact HO_236002.out) hb); have n1_ := Aside0.mk (blk_below (g := gb184) (o := .cells #[.string x185000_3, .string x185001_3, .slice none 0 0, .string x185003_3, .bool x185004_3, .int .i64 x185005_3, .int .i64 x185006_3] 50 (0, 0)) (by (with_reducible repeat (first | refine blk_drewN ?_ _ | refine blk_drew ?_ | refine blk_alloc ?_ _)); exact BK184.out) hb); have n2_ := Aside0.mk (blk_below (g := gb235) (o := .cells #[.string (rdOf ByteArray.empty t195 0), .string (rdOf ByteArray.empty t195 1), u236002, .string (⟨#[]⟩ : ByteArray), .bool false, .int .i64 0, .int .i64 0] 50 (0, 0)) (by (with_reducible repeat (first | refine blk_drewN ?_ _ | refine blk_drew ?_ | refine blk_alloc ?_ _)); exact BK235.out) hb); have n3_ := Aside0.mk (below_step (by repeat (first | (with_reducible first | exact HB.out | apply below_alloc | apply pw_below_drewN | apply below_drew1 | refine below_set ?_ GE184.out | refine below_set ?_ GE235.out) | exact HB.out)) hb); clear HO_236002; clear BK184; clear BK235; clear HB; have HO_236002 := n0_; have BK184 := n1_; have BK235 := n2_; have HB := n3_; clear n0_ n1_ n2_ n3_; (try clear hb); (try clear hb2); (try clear hk); (try clear hi)) | ((with_reducible refine gate_dst (N := 7) rfl ?_); (try (refine gate_guard (by rfl) ?_; dsimp only)); refine box_event ?hg (N := 7) ?hd (cs := #[.string (⟨#[]⟩ : ByteArray), .string (⟨#[]⟩ : ByteArray)]) (t := 62) ?hr ?_; (case hd => rfl); (case hg => rfl); (case hr => first | (go_simp; done) | (go_simp; rfl)); intro gb251 hg w64 hbox hb; have n0_ := Aside0.mk (Kd.R_below (Kd.R_elderB (by (with_reducible repeat (first | apply Kd.R_alloc | apply Kd.R_drewN | apply Kd.R_drew)); exact HO_236002.out) gb251 (Nat.le_of_eq hg.symm)) hb); have n1_ := Aside0.mk (blk_below (g := gb184) (o := .cells #[.string x185000_3, .string x185001_3, .slice none 0 0, .string x185003_3, .bool x185004_3, .int .i64 x185005_3, .int .i64 x185006_3] 50 (0, 0)) (by (with_reducible repeat (first | refine blk_drewN ?_ _ | refine blk_drew ?_ | refine blk_alloc ?_ _)); exact BK184.out) hb); have n2_ := Aside0.mk (blk_below (g := gb235) (o := .cells #[.string (rdOf ByteArray.empty t195 0), .string (rdOf ByteArray.empty t195 1), u236002, .string (⟨#[]⟩ : ByteArray), .bool false, .int .i64 0, .int .i64 0] 50 (0, 0)) (by (with_reducible repeat (first | refine blk_drewN ?_ _ | refine blk_drew ?_ | refine blk_alloc ?_ _)); exact BK235.out) hb); have n3_ := Aside0.mk (below_step (by repeat (first | (with_reducible first | exact HB.out | apply below_alloc | apply pw_below_drewN | apply below_drew1 | refine below_set ?_ GE184.out | refine below_set ?_ GE235.out) | exact HB.out)) hb); have n4_ := Aside0.mk (hbox); have n5_ := Aside0.mk ((by rw [hg]; exact (below_size (by repeat (first | (with_reducible first | exact HB.out | apply below_alloc | apply pw_below_drewN | apply below_drew1 | refine below_set ?_ GE184.out | refine below_set ?_ GE235.out) | exact HB.out))) : w.heap.size ≤ gb251)); have n6_ := Aside0.mk ((by rw [hg]; exact (below_size (by repeat (first | (with_reducible first | exact HB.out | apply below_alloc | apply pw_below_drewN | apply below_drew1 | refine below_set ?_ GE184.out | refine below_set ?_ GE235.out) | exact HB.out))) : w.heap.size ≤ gb251)); have n7_ := Aside0.mk ((by rw [hg]; exact Nat.ne_of_lt (blk_lt (g := gb184) (o := .cells #[.string x185000_3, .string x185001_3, .slice none 0 0, .string x185003_3, .bool x185004_3, .int .i64 x185005_3, .int .i64 x185006_3] 50 (0, 0)) (by (with_reducible repeat (first | refine blk_drewN ?_ _ | refine blk_drew ?_ | refine blk_alloc ?_ _)); exact BK184.out)) : gb184 ≠ gb251)); have n8_ := Aside0.mk ((by rw [hg]; exact Nat.ne_of_gt (blk_lt (g := gb184) (o := .cells #[.string x185000_3, .string x185001_3, .slice none 0 0, .string x185003_3, .bool x185004_3, .int .i64 x185005_3, .int .i64 x185006_3] 50 (0, 0)) (by (with_reducible repeat (first | refine blk_drewN ?_ _ | refine blk_drew ?_ | refine blk_alloc ?_ _)); exact BK184.out)) : gb251 ≠ gb184)); have n9_ := Aside0.mk ((by rw [hg]; exact Nat.ne_of_lt (blk_lt (g := gb235) (o := .cells #[.string (rdOf ByteArray.empty t195 0), .string (rdOf ByteArray.empty t195 1), u236002, .string (⟨#[]⟩ : ByteArray), .bool false, .int .i64 0, .int .i64 0] 50 (0, 0)) (by (with_reducible repeat (first | refine blk_drewN ?_ _ | refine blk_drew ?_ | refine blk_alloc ?_ _)); exact BK235.out)) : gb235 ≠ gb251)); have n10_ := Aside0.mk ((by rw [hg]; exact Nat.ne_of_gt (blk_lt (g := gb235) (o := .cells #[.string (rdOf ByteArray.empty t195 0), .string (rdOf ByteArray.empty t195 1), u236002, .string (⟨#[]⟩ : ByteArray), .bool false, .int .i64 0, .int .i64 0] 50 (0, 0)) (by (with_reducible repeat (first | refine blk_drewN ?_ _ | refine blk_drew ?_ | refine blk_alloc ?_ _)); exact BK235.out)) : gb251 ≠ gb235)); clear HO_236002; clear BK184; clear BK235; clear HB; have HO_236002 := n0_; have BK184 := n1_; have BK235 := n2_; have HB := n3_; have BK251 := n4_; have GW251 := n5_; have GE251 := n6_; have NB184_251 := n7_; have NB251_184 := n8_; have NB235_251 := n9_; have NB251_235 := n10_; clear n0_ n1_ n2_ n3_ n4_ n5_ n6_ n7_ n8_ n9_ n10_; clear hb hbox hg; have hnb65 := NB251_184.out; have hnc65 := NB184_251.out; have hnb66 := NB251_235.out; have hnc66 := NB235_251.out; have hcz67_0 : w64.cell? ⟨gb251, 0, none⟩ = some (.string (⟨#[]⟩ : ByteArray)) := (blk_cell BK251.out 0).trans rfl; have hcz67_1 : w64.cell? ⟨gb251, 1, none⟩ = some (.string (⟨#[]⟩ : ByteArray)) := (blk_cell BK251.out 1).trans rfl; have hfz67_0 := blk_frozen BK251.out 0; have hfz67_1 := blk_frozen BK251.out 1; have hnb68 := NB235_184.out; have hnc68 := NB184_235.out; have hcz69_0 : w64.cell? ⟨gb235, 0, none⟩ = some (.string (rdOf ByteArray.empty t195 0)) := (blk_cell BK235.out 0).trans rfl; have hcz69_1 : w64.cell? ⟨gb235, 1, none⟩ = some (.string (rdOf ByteArray.empty t195 1)) := (blk_cell BK235.out 1).trans rfl; have hcz69_2 : w64.cell? ⟨gb235, 2, none⟩ = some (u236002) := (blk_cell BK235.out 2).trans rfl; have hcz69_3 : w64.cell? ⟨gb235, 3, none⟩ = some (.string (⟨#[]⟩ : ByteArray)) := (blk_cell BK235.out 3).trans rfl; have hcz69_4 : w64.cell? ⟨gb235, 4, none⟩ = some (.bool false) := (blk_cell BK235.out 4).trans rfl; have hcz69_5 : w64.cell? ⟨gb235, 5, none⟩ = some (.int .i64 0) := (blk_cell BK235.out 5).trans rfl; have hcz69_6 : w64.cell? ⟨gb235, 6, none⟩ = some (.int .i64 0) := (blk_cell BK235.out 6).trans rfl; have hfz69_0 := blk_frozen BK235.out 0; have hfz69_1 := blk_frozen BK235.out 1; have hfz69_2 := blk_frozen BK235.out 2; have hfz69_3 := blk_frozen BK235.out 3; have hfz69_4 := blk_frozen BK235.out 4; have hfz69_5 := blk_frozen BK235.out 5; have hfz69_6 := blk_frozen BK235.out 6) | ((with_reducible refine gate_builtin (b := .append) (xs := #[.tmp 93, .tmp 95]) rfl ?_); (try (refine gate_guard (by rfl) ?_; dsimp only)); at_builtin; refine Kd.R_append k62 (w0 := w) w.heap.size rfl (.tmp 93) (.tmp 95) 29 62 (.agg #[(.string ⟨#[]⟩), (.string ⟨#[]⟩)]) 32 rfl Tryd.underlying29 info62 rfl (by decide) (by omega) u236002 x236002_3 (⟨t248, t249⟩ : S62) [.string t248, .string t249] (fun k_ => k_ ≠ gb251) (fun _ => False) rfl (by first | (go_simp; done) | (go_simp; rfl)) ?aP (fun _ hk => hk.elim) ?aF ?aO ?aB ?aS ?aL ?_; (case aP => exact k62_mkM _ _ _ (⟨t248, t249⟩ : S62)); (case aB => exact (by repeat (first | (with_reducible first | exact HB.out | apply below_alloc | apply pw_below_drewN | apply below_drew1 | refine below_set ?_ GE184.out | refine below_set ?_ GE235.out | refine below_set ?_ GE251.out) | exact HB.out))); (case aF => exact (fun k_ hk => Kd.freshB (g := gb251) (o := .cells #[.string t248, .string t249] 62 (0, 0)) (by (with_reducible repeat (first | refine blk_drewN ?_ _ | refine blk_drew ?_ | refine blk_alloc ?_ _)); refine blk_put (cs := #[.string t248, .string (⟨#[]⟩ : ByteArray)]) ?_ 1 _ rfl; (with_reducible repeat (first | refine blk_drewN ?_ _ | refine blk_drew ?_ | refine blk_alloc ?_ _)); refine blk_put (cs := #[.string (⟨#[]⟩ : ByteArray), .string (⟨#[]⟩ : ByteArray)]) ?_ 0 _ rfl; (with_reducible repeat (first | refine blk_drewN ?_ _ | refine blk_drew ?_ | refine blk_alloc ?_ _)); exact BK251.out) k_ hk)); (case aO => exact (by (with_reducible repeat (first | apply Kd.R_alloc | apply Kd.R_drewN | apply Kd.R_drew)); exact Kd.R_mono (Kd.R_far (p := ⟨gb251, 1, none⟩) (Kd.R_far (p := ⟨gb251, 0, none⟩) (Kd.R_mono HO_236002.out (fun k_ hk => (⟨hk, hk.2⟩ : _ ∧ k_ ≠ gb251))) (fun _ hk => hk.2) (.string t248)) (fun _ hk => hk.2) (.string t249)) (fun _ hk => hk.1.2))); (case aS => exact (below_size (by repeat (first | (with_reducible first | exact HB.out | apply below_alloc | apply pw_below_drewN | apply below_drew1 | refine below_set ?_ GE184.out | refine below_set ?_ GE235.out | refine below_set ?_ GE251.out) | exact HB.out)))); (case aL => have := LMc62.out; omega); intro v253 w70 ho hb hg hat; rw [← Ny252.out] at ho; have n0_ := Aside0.mk (blk_grown (g := gb184) (o := .cells #[.string x185000_3, .string x185001_3, .slice none 0 0, .string x185003_3, .bool x185004_3, .int .i64 x185005_3, .int .i64 x185006_3] 50 (0, 0)) (by (with_reducible repeat (first | refine blk_drewN ?_ _ | refine blk_drew ?_ | refine blk_alloc ?_ _)); refine blk_far ?_ NB184_251.out _; (with_reducible repeat (first | refine blk_drewN ?_ _ | refine blk_drew ?_ | refine blk_alloc ?_ _)); refine blk_far ?_ NB184_251.out _; (with_reducible repeat (first | refine blk_drewN ?_ _ | refine blk_drew ?_ | refine blk_alloc ?_ _)); exact BK184.out) hg (Kd.R_ne HO_236002.out BK184.out (by decide))); have n1_ := Aside0.mk (blk_grown (g := gb235) (o := .cells #[.string (rdOf ByteArray.empty t195 0), .string (rdOf ByteArray.empty t195 1), u236002, .string (⟨#[]⟩ : ByteArray), .bool false, .int .i64 0, .int .i64 0] 50 (0, 0)) (by (with_reducible repeat (first | refine blk_drewN ?_ _ | refine blk_drew ?_ | refine blk_alloc ?_ _)); refine blk_far ?_ NB235_251.out _; (with_reducible repeat (first | refine blk_drewN ?_ _ | refine blk_drew ?_ | refine blk_alloc ?_ _)); refine blk_far ?_ NB235_251.out _; (with_reducible repeat (first | refine blk_drewN ?_ _ | refine blk_drew ?_ | refine blk_alloc ?_ _)); exact BK235.out) hg (Kd.R_ne HO_236002.out BK235.out (by decide))); have n2_ := Aside0.mk (blk_grown (g := gb251) (o := .cells #[.string t248, .string t249] 62 (0, 0)) (by (with_reducible repeat (first | refine blk_drewN ?_ _ | refine blk_drew ?_ | refine blk_alloc ?_ _)); refine blk_put (cs := #[.string t248, .string (⟨#[]⟩ : ByteArray)]) ?_ 1 _ rfl; (with_reducible repeat (first | refine blk_drewN ?_ _ | refine blk_drew ?_ | refine blk_alloc ?_ _)); refine blk_put (cs := #[.string (⟨#[]⟩ : ByteArray), .string (⟨#[]⟩ : ByteArray)]) ?_ 0 _ rfl; (with_reducible repeat (first | refine blk_drewN ?_ _ | refine blk_drew ?_ | refine blk_alloc ?_ _)); exact BK251.out) hg (Kd.R_away HO_236002.out (fun _ hk => hk.2))); have n3_ := Aside0.mk (hb); have n4_ := Aside0.mk (ho); clear BK184; clear BK235; clear BK251; clear HB; clear HO_236002; have BK184 := n0_; have BK235 := n1_; have BK251 := n2_; have HB := n3_; have HO254 := n4_; clear n0_ n1_ n2_ n3_ n4_; clear ho hb hg hat; obtain ⟨Ao71, co71, eo71⟩ := Kd.R_slice HO254.out; subst eo71; have hcz72_0 : w70.cell? ⟨gb235, 0, none⟩ = some (.string (rdOf ByteArray.empty t195 0)) := (blk_cell BK235.out 0).trans rfl; have hcz72_1 : w70.cell? ⟨gb235, 1, none⟩ = some (.string (rdOf ByteArray.empty t195 1)) := (blk_cell BK235.out 1).trans rfl; have hcz72_2 : w70.cell? ⟨gb235, 2, none⟩ = some (u236002) := (blk_cell BK235.out 2).trans rfl; have hcz72_3 : w70.cell? ⟨gb235, 3, none⟩ = some (.string (⟨#[]⟩ : ByteArray)) := (blk_cell BK235.out 3).trans rfl; have hcz72_4 : w70.cell? ⟨gb235, 4, none⟩ = some (.bool false) := (blk_cell BK235.out 4).trans rfl; have hcz72_5 : w70.cell? ⟨gb235, 5, none⟩ = some (.int .i64 0) := (blk_cell BK235.out 5).trans rfl; have hcz72_6 : w70.cell? ⟨gb235, 6, none⟩ = some (.int .i64 0) := (blk_cell BK235.out 6).trans rfl; have hfz72_0 := blk_frozen BK235.out 0; have hfz72_1 := blk_frozen BK235.out 1; have hfz72_2 := blk_frozen BK235.out 2; have hfz72_3 := blk_frozen BK235.out 3; have hfz72_4 := blk_frozen BK235.out 4; have hfz72_5 := blk_frozen BK235.out 5; have hfz72_6 := blk_frozen BK235.out 6))
                                   go_roundg k3
                                   case measure => have := HJ9.out; have := HJ18.out; have := HK3.out; omega
                                   case rel => exact ⟨(wrap64 (x79_3 + 1)), (x185000_3), (x185001_3), (x185003_3), (x185004_3), (x185005_3), (x185006_3), (y252), (.slice Ao71 y252.length co71), (by first | rfl | (simp; done) | (simp [*]; done)), H', ⟨by have := HJ9.out; have := HJ18.out; have := HK3.out; omega⟩, ⟨by (with_reducible repeat (first | apply Kd.R_alloc | apply Kd.R_drewN | apply Kd.R_drew)); exact Kd.R_mono (Kd.R_far (p := ⟨gb235, 2, none⟩) (Kd.R_types HO254.out BK235.out (by decide)) (fun _ hk => hk.2) (.slice Ao71 y252.length co71)) (fun _ hk => trivial)⟩, ⟨by (with_reducible repeat (first | refine blk_drewN ?_ _ | refine blk_drew ?_ | refine blk_alloc ?_ _)); refine blk_far ?_ NB184_235.out _; (with_reducible repeat (first | refine blk_drewN ?_ _ | refine blk_drew ?_ | refine blk_alloc ?_ _)); exact BK184.out⟩, ⟨by (with_reducible repeat (first | refine blk_drewN ?_ _ | refine blk_drew ?_ | refine blk_alloc ?_ _)); refine blk_put (cs := #[.string (rdOf ByteArray.empty t195 0), .string (rdOf ByteArray.empty t195 1), u236002, .string (⟨#[]⟩ : ByteArray), .bool false, .int .i64 0, .int .i64 0]) ?_ 2 _ rfl; (with_reducible repeat (first | refine blk_drewN ?_ _ | refine blk_drew ?_ | refine blk_alloc ?_ _)); exact BK235.out⟩, ⟨by repeat (first | (with_reducible first | exact HB.out | apply below_alloc | apply pw_below_drewN | apply below_drew1 | refine below_set ?_ GE184.out | refine below_set ?_ GE235.out | refine below_set ?_ GE251.out) | exact HB.out)⟩⟩
                                 · rw [if_neg c62] at H
                                   exact absurd H (by simp)
                               · replace c61 := Bool.eq_false_iff.mpr c61
                                 subst c61
                                 have H1 : ((head_bad.f 400).bind fun bt255 => (some (bt255.1, bt255.2.1, bt255.2.2.1, bt255.2.2.2.1, bt255.2.2.2.2.1, bt255.2.2.2.2.2.1, bt255.2.2.2.2.2.2))) = some (r1, r2, r3, r4, r5, r6, r7) := by rw [if_neg (show ¬ (false = true) by decide)] at H; exact H
                                 clear H
                                 have H := H1
                                 clear H1
                                 replace H := Option.bind_eq_some_iff.mp H
                                 obtain ⟨⟨t255, t256, t257, t260, t261, t262, t263⟩, A730, H⟩ := H
                                 replace H : (some (t255, t256, t257, t260, t261, t262, t263)) = some (r1, r2, r3, r4, r5, r6, r7) := H
                                 have A73 := Aside0.mk A730
                                 clear A730
                                 simp only [Option.some.injEq, Prod.mk.injEq] at H
                                 obtain ⟨rfl, rfl, rfl, rfl, rfl, rfl, rfl⟩ := H
                                 have p247 : 0 ≤ (x79_3 : Int) := of_decide_eq_true (by first | (with_reducible assumption) | assumption)
                                 have q247 : x79_3 < (y237.length : Int) := of_decide_eq_true (by first | (with_reducible assumption) | assumption)
                                 obtain ⟨ad247, e247, hx247_0⟩ := Kd.at_string HR236.out x79_3 p247 q247
                                 cases e247
                                 replace hx247_0 := (HB.out.cell (World.block_lt_of_cell? w _ hx247_0)).trans hx247_0
                                 replace p247 := eq_true p247
                                 replace q247 := eq_true q247
                                 go_wp2_with (first | ((with_reducible refine gate_callee (f := 30) rfl ?_); refine goesL_ (some 85) rfl rfl Tryd.func30 (by kernel_rfl) rfl #[.string (rdOf ByteArray.empty y237 x79_3)] rfl (by (try simp only [List.map_toArray, List.map_cons, List.map_nil]); first | done | rfl | (simp only [List.length_drop, List.length_take]; rfl)) ?_; (with_reducible refine (head_field.calls k3 (rdOf ByteArray.empty y237 x79_3) t248 t249 false _ A60.out).mono ?_); rintro e w74 ⟨rfl, hb⟩; refine ⟨_, rfl, ?_⟩; have n0_ := Aside0.mk (Kd.R_below (by (with_reducible repeat (first | apply Kd.R_alloc | apply Kd.R_drewN | apply Kd.R_drew)); exact HO_236002.out) hb); have n1_ := Aside0.mk (blk_below (g := gb184) (o := .cells #[.string x185000_3, .string x185001_3, .slice none 0 0, .string x185003_3, .bool x185004_3, .int .i64 x185005_3, .int .i64 x185006_3] 50 (0, 0)) (by (with_reducible repeat (first | refine blk_drewN ?_ _ | refine blk_drew ?_ | refine blk_alloc ?_ _)); exact BK184.out) hb); have n2_ := Aside0.mk (blk_below (g := gb235) (o := .cells #[.string (rdOf ByteArray.empty t195 0), .string (rdOf ByteArray.empty t195 1), u236002, .string (⟨#[]⟩ : ByteArray), .bool false, .int .i64 0, .int .i64 0] 50 (0, 0)) (by (with_reducible repeat (first | refine blk_drewN ?_ _ | refine blk_drew ?_ | refine blk_alloc ?_ _)); exact BK235.out) hb); have n3_ := Aside0.mk (below_step (by repeat (first | (with_reducible first | exact HB.out | apply below_alloc | apply pw_below_drewN | apply below_drew1 | refine below_set ?_ GE184.out | refine below_set ?_ GE235.out) | exact HB.out)) hb); clear HO_236002; clear BK184; clear BK235; clear HB; have HO_236002 := n0_; have BK184 := n1_; have BK235 := n2_; have HB := n3_; clear n0_ n1_ n2_ n3_; (try clear hb); (try clear hb2); (try clear hk); (try clear hi)) | ((with_reducible refine gate_dst (N := 7) rfl ?_); (try (refine gate_guard (by rfl) ?_; dsimp only)); refine box_event ?hg (N := 7) ?hd (cs := #[.string (⟨#[]⟩ : ByteArray), .string (⟨#[]⟩ : ByteArray)]) (t := 62) ?hr ?_; (case hd => rfl); (case hg => rfl); (case hr => first | (go_simp; done) | (go_simp; rfl)); intro gb251 hg w75 hbox hb; have n0_ := Aside0.mk (Kd.R_below (Kd.R_elderB (by (with_reducible repeat (first | apply Kd.R_alloc | apply Kd.R_drewN | apply Kd.R_drew)); exact HO_236002.out) gb251 (Nat.le_of_eq hg.symm)) hb); have n1_ := Aside0.mk (blk_below (g := gb184) (o := .cells #[.string x185000_3, .string x185001_3, .slice none 0 0, .string x185003_3, .bool x185004_3, .int .i64 x185005_3, .int .i64 x185006_3] 50 (0, 0)) (by (with_reducible repeat (first | refine blk_drewN ?_ _ | refine blk_drew ?_ | refine blk_alloc ?_ _)); exact BK184.out) hb); have n2_ := Aside0.mk (blk_below (g := gb235) (o := .cells #[.string (rdOf ByteArray.empty t195 0), .string (rdOf ByteArray.empty t195 1), u236002, .string (⟨#[]⟩ : ByteArray), .bool false, .int .i64 0, .int .i64 0] 50 (0, 0)) (by (with_reducible repeat (first | refine blk_drewN ?_ _ | refine blk_drew ?_ | refine blk_alloc ?_ _)); exact BK235.out) hb); have n3_ := Aside0.mk (below_step (by repeat (first | (with_reducible first | exact HB.out | apply below_alloc | apply pw_below_drewN | apply below_drew1 | refine below_set ?_ GE184.out | refine below_set ?_ GE235.out) | exact HB.out)) hb); have n4_ := Aside0.mk (hbox); have n5_ := Aside0.mk ((by rw [hg]; exact (below_size (by repeat (first | (with_reducible first | exact HB.out | apply below_alloc | apply pw_below_drewN | apply below_drew1 | refine below_set ?_ GE184.out | refine below_set ?_ GE235.out) | exact HB.out))) : w.heap.size ≤ gb251)); have n6_ := Aside0.mk ((by rw [hg]; exact (below_size (by repeat (first | (with_reducible first | exact HB.out | apply below_alloc | apply pw_below_drewN | apply below_drew1 | refine below_set ?_ GE184.out | refine below_set ?_ GE235.out) | exact HB.out))) : w.heap.size ≤ gb251)); have n7_ := Aside0.mk ((by rw [hg]; exact Nat.ne_of_lt (blk_lt (g := gb184) (o := .cells #[.string x185000_3, .string x185001_3, .slice none 0 0, .string x185003_3, .bool x185004_3, .int .i64 x185005_3, .int .i64 x185006_3] 50 (0, 0)) (by (with_reducible repeat (first | refine blk_drewN ?_ _ | refine blk_drew ?_ | refine blk_alloc ?_ _)); exact BK184.out)) : gb184 ≠ gb251)); have n8_ := Aside0.mk ((by rw [hg]; exact Nat.ne_of_gt (blk_lt (g := gb184) (o := .cells #[.string x185000_3, .string x185001_3, .slice none 0 0, .string x185003_3, .bool x185004_3, .int .i64 x185005_3, .int .i64 x185006_3] 50 (0, 0)) (by (with_reducible repeat (first | refine blk_drewN ?_ _ | refine blk_drew ?_ | refine blk_alloc ?_ _)); exact BK184.out)) : gb251 ≠ gb184)); have n9_ := Aside0.mk ((by rw [hg]; exact Nat.ne_of_lt (blk_lt (g := gb235) (o := .cells #[.string (rdOf ByteArray.empty t195 0), .string (rdOf ByteArray.empty t195 1), u236002, .string (⟨#[]⟩ : ByteArray), .bool false, .int .i64 0, .int .i64 0] 50 (0, 0)) (by (with_reducible repeat (first | refine blk_drewN ?_ _ | refine blk_drew ?_ | refine blk_alloc ?_ _)); exact BK235.out)) : gb235 ≠ gb251)); have n10_ := Aside0.mk ((by rw [hg]; exact Nat.ne_of_gt (blk_lt (g := gb235) (o := .cells #[.string (rdOf ByteArray.empty t195 0), .string (rdOf ByteArray.empty t195 1), u236002, .string (⟨#[]⟩ : ByteArray), .bool false, .int .i64 0, .int .i64 0] 50 (0, 0)) (by (with_reducible repeat (first | refine blk_drewN ?_ _ | refine blk_drew ?_ | refine blk_alloc ?_ _)); exact BK235.out)) : gb251 ≠ gb235)); clear HO_236002; clear BK184; clear BK235; clear HB; have HO_236002 := n0_; have BK184 := n1_; have BK235 := n2_; have HB := n3_; have BK251 := n4_; have GW251 := n5_; have GE251 := n6_; have NB184_251 := n7_; have NB251_184 := n8_; have NB235_251 := n9_; have NB251_235 := n10_; clear n0_ n1_ n2_ n3_ n4_ n5_ n6_ n7_ n8_ n9_ n10_; clear hb hbox hg; have hnb76 := NB251_184.out; have hnc76 := NB184_251.out; have hnb77 := NB251_235.out; have hnc77 := NB235_251.out; have hcz78_0 : w75.cell? ⟨gb251, 0, none⟩ = some (.string (⟨#[]⟩ : ByteArray)) := (blk_cell BK251.out 0).trans rfl; have hcz78_1 : w75.cell? ⟨gb251, 1, none⟩ = some (.string (⟨#[]⟩ : ByteArray)) := (blk_cell BK251.out 1).trans rfl; have hfz78_0 := blk_frozen BK251.out 0; have hfz78_1 := blk_frozen BK251.out 1) | ((with_reducible refine gate_callee (f := 26) rfl ?_); refine goesL_ (some 90) rfl rfl Tryd.func26 (by kernel_rfl) rfl #[.int .i64 400] rfl (by (try simp only [List.map_toArray, List.map_cons, List.map_nil]); first | done | rfl | (simp only [List.length_drop, List.length_take]; rfl)) ?_; (with_reducible refine (head_bad.calls 400 t255 t256 t257 t260 t261 t262 t263 _ A73.out).mono ?_); rintro e w79 ⟨v258, rfl, ho0, hb⟩; refine ⟨_, rfl, ?_⟩; have n0_ := Aside0.mk (Kd.R_elder' (by (with_reducible repeat (first | apply Kd.R_alloc | apply Kd.R_drewN | apply Kd.R_drew)); exact (Kd.R_mono (Kd.R_far (p := ⟨gb251, 1, none⟩) (Kd.R_far (p := ⟨gb251, 0, none⟩) (Kd.R_mono HO_236002.out (fun k_ hk => (⟨hk, hk.2⟩ : _ ∧ k_ ≠ gb251))) (fun _ hk => hk.2) (.string t248)) (fun _ hk => hk.2) (.string t249)) (fun _ h_ => h_.1))) (Kd.R_base ho0) hb); have n1_ := Aside0.mk (Kd.R_lower (Kd.R_newB (Kd.R_new' ho0 (Kd.R_lt (by (with_reducible repeat (first | apply Kd.R_alloc | apply Kd.R_drewN | apply Kd.R_drew)); exact (Kd.R_mono (Kd.R_far (p := ⟨gb251, 1, none⟩) (Kd.R_far (p := ⟨gb251, 0, none⟩) (Kd.R_mono HO_236002.out (fun k_ hk => (⟨hk, hk.2⟩ : _ ∧ k_ ≠ gb251))) (fun _ hk => hk.2) (.string t248)) (fun _ hk => hk.2) (.string t249)) (fun _ h_ => h_.1))))) (g := gb251) (o := .cells #[.string t248, .string t249] 62 (0, 0)) (by (with_reducible repeat (first | refine blk_drewN ?_ _ | refine blk_drew ?_ | refine blk_alloc ?_ _)); refine blk_put (cs := #[.string t248, .string (⟨#[]⟩ : ByteArray)]) ?_ 1 _ rfl; (with_reducible repeat (first | refine blk_drewN ?_ _ | refine blk_drew ?_ | refine blk_alloc ?_ _)); refine blk_put (cs := #[.string (⟨#[]⟩ : ByteArray), .string (⟨#[]⟩ : ByteArray)]) ?_ 0 _ rfl; (with_reducible repeat (first | refine blk_drewN ?_ _ | refine blk_drew ?_ | refine blk_alloc ?_ _)); exact BK251.out)) (below_size (by repeat (first | (with_reducible first | exact HB.out | apply below_alloc | apply pw_below_drewN | apply below_drew1 | refine below_set ?_ GE184.out | refine below_set ?_ GE235.out | refine below_set ?_ GE251.out) | exact HB.out)))); have n2_ := Aside0.mk (blk_below (g := gb184) (o := .cells #[.string x185000_3, .string x185001_3, .slice none 0 0, .string x185003_3, .bool x185004_3, .int .i64 x185005_3, .int .i64 x185006_3] 50 (0, 0)) (by (with_reducible repeat (first | refine blk_drewN ?_ _ | refine blk_drew ?_ | refine blk_alloc ?_ _)); refine blk_far ?_ NB184_251.out _; (with_reducible repeat (first | refine blk_drewN ?_ _ | refine blk_drew ?_ | refine blk_alloc ?_ _)); refine blk_far ?_ NB184_251.out _; (with_reducible repeat (first | refine blk_drewN ?_ _ | refine blk_drew ?_ | refine blk_alloc ?_ _)); exact BK184.out) hb); have n3_ := Aside0.mk (blk_below (g := gb235) (o := .cells #[.string (rdOf ByteArray.empty t195 0), .string (rdOf ByteArray.empty t195 1), u236002, .string (⟨#[]⟩ : ByteArray), .bool false, .int .i64 0, .int .i64 0] 50 (0, 0)) (by (with_reducible repeat (first | refine blk_drewN ?_ _ | refine blk_drew ?_ | refine blk_alloc ?_ _)); refine blk_far ?_ NB235_251.out _; (with_reducible repeat (first | refine blk_drewN ?_ _ | refine blk_drew ?_ | refine blk_alloc ?_ _)); refine blk_far ?_ NB235_251.out _; (with_reducible repeat (first | refine blk_drewN ?_ _ | refine blk_drew ?_ | refine blk_alloc ?_ _)); exact BK235.out) hb); have n4_ := Aside0.mk (blk_below (g := gb251) (o := .cells #[.string t248, .string t249] 62 (0, 0)) (by (with_reducible repeat (first | refine blk_drewN ?_ _ | refine blk_drew ?_ | refine blk_alloc ?_ _)); refine blk_put (cs := #[.string t248, .string (⟨#[]⟩ : ByteArray)]) ?_ 1 _ rfl; (with_reducible repeat (first | refine blk_drewN ?_ _ | refine blk_drew ?_ | refine blk_alloc ?_ _)); refine blk_put (cs := #[.string (⟨#[]⟩ : ByteArray), .string (⟨#[]⟩ : ByteArray)]) ?_ 0 _ rfl; (with_reducible repeat (first | refine blk_drewN ?_ _ | refine blk_drew ?_ | refine blk_alloc ?_ _)); exact BK251.out) hb); have n5_ := Aside0.mk (below_step (by repeat (first | (with_reducible first | exact HB.out | apply below_alloc | apply pw_below_drewN | apply below_drew1 | refine below_set ?_ GE184.out | refine below_set ?_ GE235.out | refine below_set ?_ GE251.out) | exact HB.out)) hb); clear HO_236002; clear BK184; clear BK235; clear BK251; clear HB; have HO_236002 := n0_; have HO259 := n1_; have BK184 := n2_; have BK235 := n3_; have BK251 := n4_; have HB := n5_; clear n0_ n1_ n2_ n3_ n4_ n5_; (try clear hb); (try clear hb2); (try clear hk); (try clear hi); (try clear ho0); have hnb80 := NB184_235.out; have hnc80 := NB235_184.out; have hcz81_0 : w79.cell? ⟨gb184, 0, none⟩ = some (.string x185000_3) := (blk_cell BK184.out 0).trans rfl; have hcz81_1 : w79.cell? ⟨gb184, 1, none⟩ = some (.string x185001_3) := (blk_cell BK184.out 1).trans rfl; have hcz81_2 : w79.cell? ⟨gb184, 2, none⟩ = some (.slice none 0 0) := (blk_cell BK184.out 2).trans rfl; have hcz81_3 : w79.cell? ⟨gb184, 3, none⟩ = some (.string x185003_3) := (blk_cell BK184.out 3).trans rfl; have hcz81_4 : w79.cell? ⟨gb184, 4, none⟩ = some (.bool x185004_3) := (blk_cell BK184.out 4).trans rfl; have hcz81_5 : w79.cell? ⟨gb184, 5, none⟩ = some (.int .i64 x185005_3) := (blk_cell BK184.out 5).trans rfl; have hcz81_6 : w79.cell? ⟨gb184, 6, none⟩ = some (.int .i64 x185006_3) := (blk_cell BK184.out 6).trans rfl; have hfz81_0 := blk_frozen BK184.out 0; have hfz81_1 := blk_frozen BK184.out 1; have hfz81_2 := blk_frozen BK184.out 2; have hfz81_3 := blk_frozen BK184.out 3; have hfz81_4 := blk_frozen BK184.out 4; have hfz81_5 := blk_frozen BK184.out 5; have hfz81_6 := blk_frozen BK184.out 6; obtain ⟨Ao82, co82, eo82⟩ := Kd.R_slice HO259.out; subst eo82))
                                 refine bodyPost_ret (results_cell_row rfl _ _ gb184 50 #[.string t255, .string t256, .slice Ao82 t257.length co82, .string t260, .bool t261, .int .i64 t262, .int .i64 t263] (0, 0) _ rfl (by (with_reducible repeat (first | refine blk_drewN ?_ _ | refine blk_drew ?_ | refine blk_alloc ?_ _)); refine blk_put (cs := #[.string t255, .string t256, .slice Ao82 t257.length co82, .string t260, .bool t261, .int .i64 t262, .int .i64 x185006_3]) ?_ 6 _ rfl; (with_reducible repeat (first | refine blk_drewN ?_ _ | refine blk_drew ?_ | refine blk_alloc ?_ _)); refine blk_put (cs := #[.string t255, .string t256, .slice Ao82 t257.length co82, .string t260, .bool t261, .int .i64 x185005_3, .int .i64 x185006_3]) ?_ 5 _ rfl; (with_reducible repeat (first | refine blk_drewN ?_ _ | refine blk_drew ?_ | refine blk_alloc ?_ _)); refine blk_put (cs := #[.string t255, .string t256, .slice Ao82 t257.length co82, .string t260, .bool x185004_3, .int .i64 x185005_3, .int .i64 x185006_3]) ?_ 4 _ rfl; (with_reducible repeat (first | refine blk_drewN ?_ _ | refine blk_drew ?_ | refine blk_alloc ?_ _)); refine blk_put (cs := #[.string t255, .string t256, .slice Ao82 t257.length co82, .string x185003_3, .bool x185004_3, .int .i64 x185005_3, .int .i64 x185006_3]) ?_ 3 _ rfl; (with_reducible repeat (first | refine blk_drewN ?_ _ | refine blk_drew ?_ | refine blk_alloc ?_ _)); refine blk_put (cs := #[.string t255, .string t256, .slice none 0 0, .string x185003_3, .bool x185004_3, .int .i64 x185005_3, .int .i64 x185006_3]) ?_ 2 _ rfl; (with_reducible repeat (first | refine blk_drewN ?_ _ | refine blk_drew ?_ | refine blk_alloc ?_ _)); refine blk_put (cs := #[.string t255, .string x185001_3, .slice none 0 0, .string x185003_3, .bool x185004_3, .int .i64 x185005_3, .int .i64 x185006_3]) ?_ 1 _ rfl; (with_reducible repeat (first | refine blk_drewN ?_ _ | refine blk_drew ?_ | refine blk_alloc ?_ _)); refine blk_put (cs := #[.string x185000_3, .string x185001_3, .slice none 0 0, .string x185003_3, .bool x185004_3, .int .i64 x185005_3, .int .i64 x185006_3]) ?_ 0 _ rfl; (with_reducible repeat (first | refine blk_drewN ?_ _ | refine blk_drew ?_ | refine blk_alloc ?_ _)); exact BK184.out) Tryd.underlying50 rfl (by kernel_rfl)) rfl ?_
                                 exact ⟨_, by first | rfl | (simp [errW_none, errW_some] <;> rfl) | (simp [*, errW_none, errW_some] <;> rfl), by (with_reducible repeat (first | apply Kd.R_alloc | apply Kd.R_drewN | apply Kd.R_drew)); exact Kd.R_mono (Kd.R_far (p := ⟨gb184, 6, none⟩) (Kd.R_far (p := ⟨gb184, 5, none⟩) (Kd.R_far (p := ⟨gb184, 4, none⟩) (Kd.R_far (p := ⟨gb184, 3, none⟩) (Kd.R_far (p := ⟨gb184, 2, none⟩) (Kd.R_far (p := ⟨gb184, 1, none⟩) (Kd.R_far (p := ⟨gb184, 0, none⟩) (Kd.R_types HO259.out BK184.out (by decide)) (fun _ hk => hk.2) (.string t255)) (fun _ hk => hk.2) (.string t256)) (fun _ hk => hk.2) (.slice Ao82 t257.length co82)) (fun _ hk => hk.2) (.string t260)) (fun _ hk => hk.2) (.bool t261)) (fun _ hk => hk.2) (.int .i64 t262)) (fun _ hk => hk.2) (.int .i64 t263)) (fun _ hk => trivial), by repeat (first | (with_reducible first | exact HB.out | apply below_alloc | apply pw_below_drewN | apply below_drew1 | refine below_set ?_ GE184.out | refine below_set ?_ GE235.out | refine below_set ?_ GE251.out) | exact HB.out)⟩
                             · rw [if_neg c59] at H
                               exact absurd H (by simp)
                           · rw [if_neg c58] at H
                             exact absurd H (by simp)
                         · rw [if_neg c57] at H
                           have c57b0 : decide (x79_3 < (y237.length : Int)) = false := decide_eq_false c57
                           clear c57
                           replace H := Option.bind_eq_some_iff.mp H
                           obtain ⟨⟨t238, t239, t240, t243, t244, t245, t246⟩, A830, H⟩ := H
                           replace H : (some (t238, t239, t240, t243, t244, t245, t246)) = some (r1, r2, r3, r4, r5, r6, r7) := H
                           have A83 := Aside0.mk A830
                           clear A830
                           simp only [Option.some.injEq, Prod.mk.injEq] at H
                           obtain ⟨rfl, rfl, rfl, rfl, rfl, rfl, rfl⟩ := H
                           have hnb84 := NB235_184.out
                           have hnc84 := NB184_235.out
                           have hcz85_0 : wr.cell? ⟨gb235, 0, none⟩ = some (.string (rdOf ByteArray.empty t195 0)) := (blk_cell BK235.out 0).trans rfl
                           have hcz85_1 : wr.cell? ⟨gb235, 1, none⟩ = some (.string (rdOf ByteArray.empty t195 1)) := (blk_cell BK235.out 1).trans rfl
                           have hcz85_2 : wr.cell? ⟨gb235, 2, none⟩ = some (u236002) := (blk_cell BK235.out 2).trans rfl
                           have hcz85_3 : wr.cell? ⟨gb235, 3, none⟩ = some (.string (⟨#[]⟩ : ByteArray)) := (blk_cell BK235.out 3).trans rfl
                           have hcz85_4 : wr.cell? ⟨gb235, 4, none⟩ = some (.bool false) := (blk_cell BK235.out 4).trans rfl
                           have hcz85_5 : wr.cell? ⟨gb235, 5, none⟩ = some (.int .i64 0) := (blk_cell BK235.out 5).trans rfl
                           have hcz85_6 : wr.cell? ⟨gb235, 6, none⟩ = some (.int .i64 0) := (blk_cell BK235.out 6).trans rfl
                           have hfz85_0 := blk_frozen BK235.out 0
                           have hfz85_1 := blk_frozen BK235.out 1
                           have hfz85_2 := blk_frozen BK235.out 2
                           have hfz85_3 := blk_frozen BK235.out 3
                           have hfz85_4 := blk_frozen BK235.out 4
                           have hfz85_5 := blk_frozen BK235.out 5
                           have hfz85_6 := blk_frozen BK235.out 6
                           obtain ⟨Ao86, co86, eo86⟩ := Kd.R_slice HO_236002.out
                           subst eo86
                           go_wp2_with (first | ((with_reducible refine gate_callee (f := 31) rfl ?_); refine goesL_ (some 101) rfl rfl Tryd.func31 (by kernel_rfl) rfl #[.agg #[.string (rdOf ByteArray.empty t195 0), .string (rdOf ByteArray.empty t195 1), .slice Ao86 x236002_3.length co86, .string (⟨#[]⟩ : ByteArray), .bool false, .int .i64 0, .int .i64 0]] rfl (by (try simp only [List.map_toArray, List.map_cons, List.map_nil]); first | done | rfl | (simp only [List.length_drop, List.length_take]; rfl)) ?_; (with_reducible refine (head_Head_frame.calls k3 (rdOf ByteArray.empty t195 0) (rdOf ByteArray.empty t195 1) (fun k_ => some k_ = (.slice Ao86 x236002_3.length co86 : Value).ownBlock) (.slice Ao86 x236002_3.length co86) x236002_3 (⟨#[]⟩ : ByteArray) false 0 0 t238 t239 t240 t243 t244 t245 t246 w _ ?side1 ?side2 A83.out).mono ?_); (case side1 => repeat (first | (with_reducible first | exact HB.out | apply below_alloc | apply pw_below_drewN | apply below_drew1 | refine below_set ?_ GE184.out | refine below_set ?_ GE235.out) | exact HB.out)); (case side2 => exact Kd.R_tight rfl HO_236002.out); rintro e w87 ⟨v241, rfl, ho0, hb, hkp⟩; refine ⟨_, rfl, ?_⟩; have n0_ := Aside0.mk (blk_kept (by (with_reducible repeat (first | refine blk_drewN ?_ _ | refine blk_drew ?_ | refine blk_alloc ?_ _)); exact BK184.out) hkp (fun hs_ => (fun e_ => (Kd.R_ne HO_236002.out BK184.out (by decide)) e_) hs_)); have n1_ := Aside0.mk (blk_kept (by (with_reducible repeat (first | refine blk_drewN ?_ _ | refine blk_drew ?_ | refine blk_alloc ?_ _)); exact BK235.out) hkp (fun hs_ => (fun e_ => (Kd.R_ne HO_236002.out BK235.out (by decide)) e_) hs_)); have n2_ := Aside0.mk (Kd.R_mono (ok' := fun k_ => True) ho0 (fun k_ hk_ => trivial)); have n3_ := Aside0.mk (hb); clear BK184; clear BK235; clear HB; clear HO_236002; have BK184 := n0_; have BK235 := n1_; have HO242 := n2_; have HB := n3_; clear n0_ n1_ n2_ n3_; (try clear hb); (try clear hkp); (try clear ho0); have hcz88_0 : w87.cell? ⟨gb184, 0, none⟩ = some (.string x185000_3) := (blk_cell BK184.out 0).trans rfl; have hcz88_1 : w87.cell? ⟨gb184, 1, none⟩ = some (.string x185001_3) := (blk_cell BK184.out 1).trans rfl; have hcz88_2 : w87.cell? ⟨gb184, 2, none⟩ = some (.slice none 0 0) := (blk_cell BK184.out 2).trans rfl; have hcz88_3 : w87.cell? ⟨gb184, 3, none⟩ = some (.string x185003_3) := (blk_cell BK184.out 3).trans rfl; have hcz88_4 : w87.cell? ⟨gb184, 4, none⟩ = some (.bool x185004_3) := (blk_cell BK184.out 4).trans rfl; have hcz88_5 : w87.cell? ⟨gb184, 5, none⟩ = some (.int .i64 x185005_3) := (blk_cell BK184.out 5).trans rfl; have hcz88_6 : w87.cell? ⟨gb184, 6, none⟩ = some (.int .i64 x185006_3) := (blk_cell BK184.out 6).trans rfl; have hfz88_0 := blk_frozen BK184.out 0; have hfz88_1 := blk_frozen BK184.out 1; have hfz88_2 := blk_frozen BK184.out 2; have hfz88_3 := blk_frozen BK184.out 3; have hfz88_4 := blk_frozen BK184.out 4; have hfz88_5 := blk_frozen BK184.out 5; have hfz88_6 := blk_frozen BK184.out 6; obtain ⟨Ao89, co89, eo89⟩ := Kd.R_slice HO242.out; subst eo89))
                           refine bodyPost_ret (results_cell_row rfl _ _ gb184 50 #[.string t238, .string t239, .slice Ao89 t240.length co89, .string t243, .bool t244, .int .i64 t245, .int .i64 t246] (0, 0) _ rfl (by (with_reducible repeat (first | refine blk_drewN ?_ _ | refine blk_drew ?_ | refine blk_alloc ?_ _)); refine blk_put (cs := #[.string t238, .string t239, .slice Ao89 t240.length co89, .string t243, .bool t244, .int .i64 t245, .int .i64 x185006_3]) ?_ 6 _ rfl; (with_reducible repeat (first | refine blk_drewN ?_ _ | refine blk_drew ?_ | refine blk_alloc ?_ _)); refine blk_put (cs := #[.string t238, .string t239, .slice Ao89 t240.length co89, .string t243, .bool t244, .int .i64 x185005_3, .int .i64 x185006_3]) ?_ 5 _ rfl; (with_reducible repeat (first | refine blk_drewN ?_ _ | refine blk_drew ?_ | refine blk_alloc ?_ _)); refine blk_put (cs := #[.string t238, .string t239, .slice Ao89 t240.length co89, .string t243, .bool x185004_3, .int .i64 x185005_3, .int .i64 x185006_3]) ?_ 4 _ rfl; (with_reducible repeat (first | refine blk_drewN ?_ _ | refine blk_drew ?_ | refine blk_alloc ?_ _)); refine blk_put (cs := #[.string t238, .string t239, .slice Ao89 t240.length co89, .string x185003_3, .bool x185004_3, .int .i64 x185005_3, .int .i64 x185006_3]) ?_ 3 _ rfl; (with_reducible repeat (first | refine blk_drewN ?_ _ | refine blk_drew ?_ | refine blk_alloc ?_ _)); refine blk_put (cs := #[.string t238, .string t239, .slice none 0 0, .string x185003_3, .bool x185004_3, .int .i64 x185005_3, .int .i64 x185006_3]) ?_ 2 _ rfl; (with_reducible repeat (first | refine blk_drewN ?_ _ | refine blk_drew ?_ | refine blk_alloc ?_ _)); refine blk_put (cs := #[.string t238, .string x185001_3, .slice none 0 0, .string x185003_3, .bool x185004_3, .int .i64 x185005_3, .int .i64 x185006_3]) ?_ 1 _ rfl; (with_reducible repeat (first | refine blk_drewN ?_ _ | refine blk_drew ?_ | refine blk_alloc ?_ _)); refine blk_put (cs := #[.string x185000_3, .string x185001_3, .slice none 0 0, .string x185003_3, .bool x185004_3, .int .i64 x185005_3, .int .i64 x185006_3]) ?_ 0 _ rfl; (with_reducible repeat (first | refine blk_drewN ?_ _ | refine blk_drew ?_ | refine blk_alloc ?_ _)); exact BK184.out) Tryd.underlying50 rfl (by kernel_rfl)) rfl ?_
                           exact ⟨_, by first | rfl | (simp [errW_none, errW_some] <;> rfl) | (simp [*, errW_none, errW_some] <;> rfl), by (with_reducible repeat (first | apply Kd.R_alloc | apply Kd.R_drewN | apply Kd.R_drew)); exact Kd.R_mono (Kd.R_far (p := ⟨gb184, 6, none⟩) (Kd.R_far (p := ⟨gb184, 5, none⟩) (Kd.R_far (p := ⟨gb184, 4, none⟩) (Kd.R_far (p := ⟨gb184, 3, none⟩) (Kd.R_far (p := ⟨gb184, 2, none⟩) (Kd.R_far (p := ⟨gb184, 1, none⟩) (Kd.R_far (p := ⟨gb184, 0, none⟩) (Kd.R_types HO242.out BK184.out (by decide)) (fun _ hk => hk.2) (.string t238)) (fun _ hk => hk.2) (.string t239)) (fun _ hk => hk.2) (.slice Ao89 t240.length co89)) (fun _ hk => hk.2) (.string t243)) (fun _ hk => hk.2) (.bool t244)) (fun _ hk => hk.2) (.int .i64 t245)) (fun _ hk => hk.2) (.int .i64 t246)) (fun _ hk => trivial), by repeat (first | (with_reducible first | exact HB.out | apply below_alloc | apply pw_below_drewN | apply below_drew1 | refine below_set ?_ GE184.out | refine below_set ?_ GE235.out) | exact HB.out)⟩
                     · rw [if_neg c45] at H
                       exact absurd H (by simp)
                   · rw [if_neg c44] at H
                     exact absurd H (by simp)
                 · rw [if_neg c43] at H
                   exact absurd H (by simp)
               · rw [if_neg c42] at H
                 have c42b0 : ((rdOf ByteArray.empty t195 2).toList == ([72, 84, 84, 80, 47, 49, 46, 49] : List UInt8)) = false := beq_eq_false_iff_ne.mpr c42
                 have c42b1 : ((rdOf ByteArray.empty t195 2).toList != ([72, 84, 84, 80, 47, 49, 46, 49] : List UInt8)) = true := bne_iff_ne.mpr c42
                 replace H := Option.bind_eq_some_iff.mp H
                 obtain ⟨⟨t224, t225, t226, t229, t230, t231, t232⟩, A900, H⟩ := H
                 replace H : (some (t224, t225, t226, t229, t230, t231, t232)) = some (r1, r2, r3, r4, r5, r6, r7) := H
                 have A90 := Aside0.mk A900
                 clear A900
                 simp only [Option.some.injEq, Prod.mk.injEq] at H
                 obtain ⟨rfl, rfl, rfl, rfl, rfl, rfl, rfl⟩ := H
                 obtain ⟨Ao91, co91, eo91⟩ := Kd.R_slice HO_3.out
                 subst eo91
                 have p223 : 0 ≤ (2 : Int) := (by omega)
                 have q223 : 2 < (t195.length : Int) := of_decide_eq_true (by first | (with_reducible assumption) | assumption)
                 obtain ⟨ad223, e223, hx223_0⟩ := Kd.at_string (Kd.R_reads' HO_3.out).2.2 2 p223 q223
                 cases e223
                 (try simp only [show (2 : Int).toNat = 2 from rfl, Nat.reduceMul, Nat.reduceEqDiff, Go.Addr.add, ↓reduceIte] at hx223_0)
                 have qi223 : (2 < t195.length) = True := eq_true (by omega)
                 (try rw [show ((2 : Int)).toNat = 2 from rfl] at hx223_0)
                 replace p223 := eq_true p223
                 replace q223 := eq_true q223
                 go_wp2_with (first | ((with_reducible refine gate_callee (f := 26) rfl ?_); refine goesL_ (some 67) rfl rfl Tryd.func26 (by kernel_rfl) rfl #[.int .i64 400] rfl (by (try simp only [List.map_toArray, List.map_cons, List.map_nil]); first | done | rfl | (simp only [List.length_drop, List.length_take]; rfl)) ?_; (with_reducible refine (head_bad.calls 400 t224 t225 t226 t229 t230 t231 t232 _ A90.out).mono ?_); rintro e w92 ⟨v227, rfl, ho0, hb⟩; refine ⟨_, rfl, ?_⟩; have n0_ := Aside0.mk (Kd.R_below (by (with_reducible repeat (first | apply Kd.R_alloc | apply Kd.R_drewN | apply Kd.R_drew)); exact HO_3.out) hb); have n1_ := Aside0.mk (Kd.R_lower ho0 (below_size (by repeat (first | (with_reducible first | exact HB.out | apply below_alloc | apply pw_below_drewN | apply below_drew1 | refine below_set ?_ GE184.out) | exact HB.out)))); have n2_ := Aside0.mk (blk_below (g := gb184) (o := .cells #[.string (⟨#[]⟩ : ByteArray), .string (⟨#[]⟩ : ByteArray), .slice none 0 0, .string (⟨#[]⟩ : ByteArray), .bool false, .int .i64 0, .int .i64 0] 50 (0, 0)) (by (with_reducible repeat (first | refine blk_drewN ?_ _ | refine blk_drew ?_ | refine blk_alloc ?_ _)); exact BK184.out) hb); have n3_ := Aside0.mk (below_step (by repeat (first | (with_reducible first | exact HB.out | apply below_alloc | apply pw_below_drewN | apply below_drew1 | refine below_set ?_ GE184.out) | exact HB.out)) hb); clear HO_3; clear BK184; clear HB; have HO_3 := n0_; have HO228 := n1_; have BK184 := n2_; have HB := n3_; clear n0_ n1_ n2_ n3_; (try clear hb); (try clear hb2); (try clear hk); (try clear hi); (try clear ho0); have hcz93_0 : w92.cell? ⟨gb184, 0, none⟩ = some (.string (⟨#[]⟩ : ByteArray)) := (blk_cell BK184.out 0).trans rfl; have hcz93_1 : w92.cell? ⟨gb184, 1, none⟩ = some (.string (⟨#[]⟩ : ByteArray)) := (blk_cell BK184.out 1).trans rfl; have hcz93_2 : w92.cell? ⟨gb184, 2, none⟩ = some (.slice none 0 0) := (blk_cell BK184.out 2).trans rfl; have hcz93_3 : w92.cell? ⟨gb184, 3, none⟩ = some (.string (⟨#[]⟩ : ByteArray)) := (blk_cell BK184.out 3).trans rfl; have hcz93_4 : w92.cell? ⟨gb184, 4, none⟩ = some (.bool false) := (blk_cell BK184.out 4).trans rfl; have hcz93_5 : w92.cell? ⟨gb184, 5, none⟩ = some (.int .i64 0) := (blk_cell BK184.out 5).trans rfl; have hcz93_6 : w92.cell? ⟨gb184, 6, none⟩ = some (.int .i64 0) := (blk_cell BK184.out 6).trans rfl; have hfz93_0 := blk_frozen BK184.out 0; have hfz93_1 := blk_frozen BK184.out 1; have hfz93_2 := blk_frozen BK184.out 2; have hfz93_3 := blk_frozen BK184.out 3; have hfz93_4 := blk_frozen BK184.out 4; have hfz93_5 := blk_frozen BK184.out 5; have hfz93_6 := blk_frozen BK184.out 6; obtain ⟨Ao94, co94, eo94⟩ := Kd.R_slice HO228.out; subst eo94))
                 refine bodyPost_ret (results_cell_row rfl _ _ gb184 50 #[.string t224, .string t225, .slice Ao94 t226.length co94, .string t229, .bool t230, .int .i64 t231, .int .i64 t232] (0, 0) _ rfl (by (with_reducible repeat (first | refine blk_drewN ?_ _ | refine blk_drew ?_ | refine blk_alloc ?_ _)); refine blk_put (cs := #[.string t224, .string t225, .slice Ao94 t226.length co94, .string t229, .bool t230, .int .i64 t231, .int .i64 0]) ?_ 6 _ rfl; (with_reducible repeat (first | refine blk_drewN ?_ _ | refine blk_drew ?_ | refine blk_alloc ?_ _)); refine blk_put (cs := #[.string t224, .string t225, .slice Ao94 t226.length co94, .string t229, .bool t230, .int .i64 0, .int .i64 0]) ?_ 5 _ rfl; (with_reducible repeat (first | refine blk_drewN ?_ _ | refine blk_drew ?_ | refine blk_alloc ?_ _)); refine blk_put (cs := #[.string t224, .string t225, .slice Ao94 t226.length co94, .string t229, .bool false, .int .i64 0, .int .i64 0]) ?_ 4 _ rfl; (with_reducible repeat (first | refine blk_drewN ?_ _ | refine blk_drew ?_ | refine blk_alloc ?_ _)); refine blk_put (cs := #[.string t224, .string t225, .slice Ao94 t226.length co94, .string (⟨#[]⟩ : ByteArray), .bool false, .int .i64 0, .int .i64 0]) ?_ 3 _ rfl; (with_reducible repeat (first | refine blk_drewN ?_ _ | refine blk_drew ?_ | refine blk_alloc ?_ _)); refine blk_put (cs := #[.string t224, .string t225, .slice none 0 0, .string (⟨#[]⟩ : ByteArray), .bool false, .int .i64 0, .int .i64 0]) ?_ 2 _ rfl; (with_reducible repeat (first | refine blk_drewN ?_ _ | refine blk_drew ?_ | refine blk_alloc ?_ _)); refine blk_put (cs := #[.string t224, .string (⟨#[]⟩ : ByteArray), .slice none 0 0, .string (⟨#[]⟩ : ByteArray), .bool false, .int .i64 0, .int .i64 0]) ?_ 1 _ rfl; (with_reducible repeat (first | refine blk_drewN ?_ _ | refine blk_drew ?_ | refine blk_alloc ?_ _)); refine blk_put (cs := #[.string (⟨#[]⟩ : ByteArray), .string (⟨#[]⟩ : ByteArray), .slice none 0 0, .string (⟨#[]⟩ : ByteArray), .bool false, .int .i64 0, .int .i64 0]) ?_ 0 _ rfl; (with_reducible repeat (first | refine blk_drewN ?_ _ | refine blk_drew ?_ | refine blk_alloc ?_ _)); exact BK184.out) Tryd.underlying50 rfl (by kernel_rfl)) rfl ?_
                 exact ⟨_, by first | rfl | (simp [errW_none, errW_some] <;> rfl) | (simp [*, errW_none, errW_some] <;> rfl), by (with_reducible repeat (first | apply Kd.R_alloc | apply Kd.R_drewN | apply Kd.R_drew)); exact Kd.R_mono (Kd.R_far (p := ⟨gb184, 6, none⟩) (Kd.R_far (p := ⟨gb184, 5, none⟩) (Kd.R_far (p := ⟨gb184, 4, none⟩) (Kd.R_far (p := ⟨gb184, 3, none⟩) (Kd.R_far (p := ⟨gb184, 2, none⟩) (Kd.R_far (p := ⟨gb184, 1, none⟩) (Kd.R_far (p := ⟨gb184, 0, none⟩) (Kd.R_types HO228.out BK184.out (by decide)) (fun _ hk => hk.2) (.string t224)) (fun _ hk => hk.2) (.string t225)) (fun _ hk => hk.2) (.slice Ao94 t226.length co94)) (fun _ hk => hk.2) (.string t229)) (fun _ hk => hk.2) (.bool t230)) (fun _ hk => hk.2) (.int .i64 t231)) (fun _ hk => hk.2) (.int .i64 t232)) (fun _ hk => trivial), by repeat (first | (with_reducible first | exact HB.out | apply below_alloc | apply pw_below_drewN | apply below_drew1 | refine below_set ?_ GE184.out) | exact HB.out)⟩
             · rw [if_neg c41] at H
               exact absurd H (by simp)
   · rw [if_neg c8] at H
     exact absurd H (by simp)
end Go.Proofs.YtldaingkcnmaoaaDoor.X
