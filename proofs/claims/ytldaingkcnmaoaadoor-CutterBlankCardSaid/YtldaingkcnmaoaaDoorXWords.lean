-- Made smaller by wip/squeeze.py out of this claim's texts. Not trusted: Lean checks it.
import Derived.Test.YtldaingkcnmaoaaDoorWMore
import Derived.Lib.SlBytesConst
import Derived.Laws.RangeString
import Derived.Laws.RangeAny
import Derived.Lib.BufferWrite
import Derived.Lib.Strings
import Derived.Lib.Hide
import Derived.WalkMore
set_option linter.unusedVariables false
set_option linter.unusedSimpArgs false
namespace Go.Proofs.YtldaingkcnmaoaaDoorW.PrintWords
open Go.RowKit
namespace Kd
open Go.Proofs.YtldaingkcnmaoaaDoorW.PrintMore
section
variable {P : Program} {ops : Array Oper} {rest : List Oper} {o : Oper} {a : Act} {Q : Exit → Act → World → Prop}
theorem bytesWorld_C (W : World) (e : TypeId) (s : ByteArray) (hs : s.size ≤ 9223372036854775807) (W' : World) (hW : W'.heap[W.heap.size]? = (Lib.bytesWorld W e s).heap[W.heap.size]?) :
    (Kd.int .u8).C W' (some ⟨W.heap.size, 0, none⟩) (bytesOf s).length (bytesOf s) := by
  refine C_of_reads (d := (0 : Int)) (h1 := fun _ => rfl) ?_
  have h := bytes_reads W e s hs
  rw [bytesOf_length]
  refine ⟨h.1, h.2.1, fun hp => ?_⟩
  obtain ⟨ad, ha, hc⟩ := h.2.2 hp
  refine ⟨ad, ha, fun j hj => ?_⟩
  have hc' := hc j hj
  injection ha with ha
  subst ha
  rw [add_plain] at hc' ⊢
  rw [← hc']
  simp only [World.cell?, hW]
theorem V_conv {w0 W : World} (base e : Nat) (hgd : o.guard = none) {N : Tmp} (_hd : o.dst = some N) (src dst : TypeId) (x : Operand) (ho : o.op = .convert src dst x) (s : ByteArray) (hx : a.eval x = .string s)
    {u : TypeDesc} (hs : P.underlying src = some u) (hd : P.underlying dst = some (.slice e)) (he : P.underlying e = some (.int .u8)) {ok : Nat → Prop} (hok : ok W.heap.size) (hl : s.size ≤ 9223372036854775807)
    (HB : Below base w0 W) (hbase : base ≤ W.heap.size)
    (h : ∀ v1 w1, Kd.V (Kd.int .u8) e w1 base ok v1 (bytesOf s) → Below base w0 w1 → W.grownBy w1 none → True → wpList P ops Q rest (a.put o.dst v1) w1) : wpList P ops Q (o :: rest) a W := by
  have hrun : (execOp a.eval o).run P W = .ok (.value (.slice (some ⟨W.heap.size, 0, none⟩) s.size (grownCap W s.size 0 e))) (Lib.bytesWorld W e s) := by
    simp [execOp, ho, hx, Lib.run_convert_string_bytes W src dst e s hs hd he]
  have hb := bytes_below (Below.refl W.heap.size W) (Nat.le_refl _) e s
  refine event_run hgd hrun (h _ _ ?_ (bytes_below HB hbase e s) (grown_of_below hb none) trivial)
  refine ⟨some ⟨W.heap.size, 0, none⟩, grownCap W s.size 0 e, by rw [bytesOf_length], ?_, fun W' hW => ?_⟩
  · rw [bytesOf_length]
    exact grownCap_ge W s.size 0 e
  · exact bytesWorld_C W e s hl W' (hW _ hok (by rw [Lib.bytesWorld_size]; omega))
theorem blockC (W : World) (e : TypeId) (xs : List Int) (fr : Nat × Nat) (hl : xs.length ≤ 9223372036854775807) (W' : World) (g : Nat) (hW : W'.heap[g]? = some (.cells (nums .u8 xs).toArray e fr)) :
    (Kd.int .u8).C W' (some ⟨g, 0, none⟩) xs.length xs := by
  refine C_of_reads (d := (0 : Int)) (h1 := fun _ => rfl) ?_
  refine ⟨rfl, hl, fun hp => ⟨_, rfl, fun j hj => ?_⟩⟩
  rw [add_plain]
  simp [World.cell?, hW, nums, List.getElem?_eq_getElem hj, List.getD_eq_getElem?_getD]
theorem V_const {o2 : Oper} {w0 W : World} (base e : Nat) (hgd : o.guard = none) (hgd2 : o2.guard = none) {N : Tmp} (hdst : o.dst = some N) (xs : List Int) (hl : xs.length ≤ 9223372036854775807)
    (hrun : (execOp a.eval o).run P W = .ok (.value (.slice (some ⟨W.heap.size, 0, none⟩) xs.length xs.length)) (W.alloc (.cells (nums .u8 xs).toArray e)))
    (t : TypeId) (ho2 : o2.op = .convert t t (.tmp N)) (hx : (a.put o.dst (.slice (some ⟨W.heap.size, 0, none⟩) xs.length xs.length)).eval (.tmp N) = .slice (some ⟨W.heap.size, 0, none⟩) xs.length xs.length)
    (ht : P.underlying t = some (.slice e)) (he : P.underlying e = some (.int .u8)) {ok : Nat → Prop} (hok : ok W.heap.size)
    (HB : Below base w0 W) (hbase : base ≤ W.heap.size)
    (h : ∀ v1 w1, Kd.V (Kd.int .u8) e w1 base ok v1 xs → Below base w0 w1 → W.grownBy w1 none → True → wpList P ops Q rest ((a.put o.dst (.slice (some ⟨W.heap.size, 0, none⟩) xs.length xs.length)).put o2.dst v1) w1) : wpList P ops Q (o :: o2 :: rest) a W := by
  refine event_run hgd hrun (event_run hgd2 (w1 := W.alloc (.cells (nums .u8 xs).toArray e ((nums .u8 xs).toArray.size, (nums .u8 xs).toArray.size + 1))) (v := .slice (some ⟨W.heap.size, 0, none⟩) xs.length xs.length) ?_ (h _ _ ?_ (HB.alloc hbase _) (World.grownBy_alloc W _ none) trivial))
  · simp only [execOp, ho2, hx]
    rw [show (convert t t (.slice (some ⟨W.heap.size, 0, none⟩) xs.length xs.length)) = convert t t (.slice (some ⟨W.heap.size, 0, none⟩) xs.length xs.length) from rfl]
    simp [Lib.run_convert_bytes_const W t e (nums .u8 xs).toArray xs.length xs.length ht he]
  · refine ⟨some ⟨W.heap.size, 0, none⟩, xs.length, rfl, Nat.le_refl _, fun W' hW => ?_⟩
    exact blockC W e xs _ hl W' W.heap.size ((hW _ hok (by simp)).trans (heap_alloc_new W _))
theorem B_const {o2 : Oper} {w0 W : World} (base e : Nat) (hgd : o.guard = none) (hgd2 : o2.guard = none) {N : Tmp} (hdst : o.dst = some N) (xs : List Int)
    (hrun : (execOp a.eval o).run P W = .ok (.value (.slice (some ⟨W.heap.size, 0, none⟩) xs.length xs.length)) (W.alloc (.cells (nums .u8 xs).toArray e)))
    (t : TypeId) (ho2 : o2.op = .convert t t (.tmp N)) (hx : (a.put o.dst (.slice (some ⟨W.heap.size, 0, none⟩) xs.length xs.length)).eval (.tmp N) = .slice (some ⟨W.heap.size, 0, none⟩) xs.length xs.length)
    (ht : P.underlying t = some (.slice e)) (he : P.underlying e = some (.int .u8)) (HB : Below base w0 W) (hbase : base ≤ W.heap.size)
    (h : ∀ ad w1, ad = (⟨W.heap.size, 0, none⟩ : Addr) → w1.heap[W.heap.size]? = some (.cells (nums .u8 xs).toArray e ((nums .u8 xs).toArray.size, (nums .u8 xs).toArray.size + 1)) → Below base w0 w1 → Below W.heap.size W w1 →
      wpList P ops Q rest ((a.put o.dst (.slice (some ⟨W.heap.size, 0, none⟩) xs.length xs.length)).put o2.dst (.slice (some ad) xs.length xs.length)) w1) : wpList P ops Q (o :: o2 :: rest) a W := by
  refine event_run hgd hrun (event_run hgd2 (w1 := W.alloc (.cells (nums .u8 xs).toArray e ((nums .u8 xs).toArray.size, (nums .u8 xs).toArray.size + 1))) (v := .slice (some ⟨W.heap.size, 0, none⟩) xs.length xs.length) ?_ (h _ _ rfl (heap_alloc_new W _) (HB.alloc hbase _) ((Below.refl _ W).alloc (Nat.le_refl _) _)))
  simp only [execOp, ho2, hx]
  rw [show (convert t t (.slice (some ⟨W.heap.size, 0, none⟩) xs.length xs.length)) = convert t t (.slice (some ⟨W.heap.size, 0, none⟩) xs.length xs.length) from rfl]
  simp [Lib.run_convert_bytes_const W t e (nums .u8 xs).toArray xs.length xs.length ht he]
end
end Kd
end Go.Proofs.YtldaingkcnmaoaaDoorW.PrintWords
