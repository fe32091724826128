/-
  DERIVED. GIVEN WITH THE SEED: THE PROGRAM's TIES (one call each: nine closed facts by the kernel) AND EACH ROW's TIE, after the 31st guide's Derived/Test/Toyas{Tie, Card}.lean. No idea stands in it: it is a product of the set-up. Laid BY PROGRAM, IN A SANDBOX (cutbox-door.mjs). By AI agents, Wed Nov 11 2026. No macro, syntax, notation, axiom, sorry.
-/
import Derived.Test.YtldaingkcnmaoaaDoorRows
import Derived.LaidByTextLater
import Derived.SevenTiedAt
import Derived.LaidSub
import Derived.LaidOnce
namespace Go.Proofs.YtldaingkcnmaoaaDoor
open Go
set_option maxRecDepth 100000
theorem seatTie1 : Tryd.prog.laidByTextLater [("crossroad/crossroadlaw04.methods", Rows.laid_crossroad_crossroadlaw04_methods), ("crossroad/crossroadlaw04.targets", Rows.laid_crossroad_crossroadlaw04_targets), ("crossroad/crossroadlaw04.bodies", Rows.laid_crossroad_crossroadlaw04_bodies)] [.data, .data, .data] true :=
  Program.laidByTextLater_by_one 24 8 17 (by kernel_rfl) (by kernel_rfl) (by kernel_rfl) (by kernel_rfl) (by kernel_rfl) (by kernel_rfl) (fun _ _ => by kernel_rfl)
theorem noOwnUnsafe : Tryd.pinned.checked.prog.headLifts.contains "ownunsafe" = false := by kernel_rfl
theorem tie : Tryd.prog.laidByTextLater [("crossroad/crossroadlaw04.methods", Rows.laid_crossroad_crossroadlaw04_methods), ("crossroad/crossroadlaw04.targets", Rows.laid_crossroad_crossroadlaw04_targets), ("crossroad/crossroadlaw04.bodies", Rows.laid_crossroad_crossroadlaw04_bodies)] [.data, .data, .data] true :=
  Program.laidByTextLater.sub seatTie1 ["crossroad/crossroadlaw04.methods", "crossroad/crossroadlaw04.targets", "crossroad/crossroadlaw04.bodies"] (by kernel_rfl) (by kernel_rfl)
theorem cutterBodies_row_tie : Rows.cutterBodiesRow.laidByTextAt .later Tryd.pinned [.data, .data, .data] true :=
  OpenClaim.laidByTextAt_later rfl rfl tie noOwnUnsafe
theorem cutterDone_row_tie : Rows.cutterDoneRow.laidByTextAt .later Tryd.pinned [.data, .data, .data] true :=
  OpenClaim.laidByTextAt_later rfl rfl tie noOwnUnsafe
theorem cutterSeeds_row_tie : Rows.cutterSeedsRow.laidByTextAt .later Tryd.pinned [.data, .data, .data] true :=
  OpenClaim.laidByTextAt_later rfl rfl tie noOwnUnsafe
theorem cutterLines_row_tie : Rows.cutterLinesRow.laidByTextAt .later Tryd.pinned [.data, .data, .data] true :=
  OpenClaim.laidByTextAt_later rfl rfl tie noOwnUnsafe
theorem cutterBlank_row_tie : Rows.cutterBlankRow.laidByTextAt .later Tryd.pinned [.data, .data, .data] true :=
  OpenClaim.laidByTextAt_later rfl rfl tie noOwnUnsafe
theorem cutterBodiesUpto_row_tie : Rows.cutterBodiesUptoRow.laidByTextAt .later Tryd.pinned [.data, .data, .data] true :=
  OpenClaim.laidByTextAt_later rfl rfl tie noOwnUnsafe
theorem cutterDoneUpto_row_tie : Rows.cutterDoneUptoRow.laidByTextAt .later Tryd.pinned [.data, .data, .data] true :=
  OpenClaim.laidByTextAt_later rfl rfl tie noOwnUnsafe
theorem cutterSeedsUpto_row_tie : Rows.cutterSeedsUptoRow.laidByTextAt .later Tryd.pinned [.data, .data, .data] true :=
  OpenClaim.laidByTextAt_later rfl rfl tie noOwnUnsafe
theorem cutterLinesUpto_row_tie : Rows.cutterLinesUptoRow.laidByTextAt .later Tryd.pinned [.data, .data, .data] true :=
  OpenClaim.laidByTextAt_later rfl rfl tie noOwnUnsafe
theorem cutterBlankUpto_row_tie : Rows.cutterBlankUptoRow.laidByTextAt .later Tryd.pinned [.data, .data, .data] true :=
  OpenClaim.laidByTextAt_later rfl rfl tie noOwnUnsafe
end Go.Proofs.YtldaingkcnmaoaaDoor
