/- Plain facts on texts as lists of bytes: no program in sight. -/
import Derived.Test.YtkdmjkoojipofaaXWords
import Derived.Lib.Strings
import Derived.OpenShut
set_option linter.unusedVariables false
set_option linter.unusedSimpArgs false
namespace Go.Proofs.Ytkdmjkoojipofaa.M
open Go.RowKit Go.Proofs.YtkdmjkoojipofaaW.PrintWords

def toBA (l : List UInt8) : ByteArray := ⟨l.toArray⟩
theorem toBA_data (s : ByteArray) : toBA s.data.toList = s := by cases s; simp [toBA]
theorem exBA (s : ByteArray) : ∃ l, s = toBA l := ⟨_, (toBA_data s).symm⟩
@[simp] theorem toBA_size (l : List UInt8) : (toBA l).size = l.length := by simp [toBA, ByteArray.size]
@[simp] theorem toBA_dl (l : List UInt8) : (toBA l).data.toList = l := by simp [toBA]
@[simp] theorem toBA_toList (l : List UInt8) : (toBA l).toList = l := by rw [Lib.toList_data]; simp
theorem ba_ext {a b : ByteArray} (h : a.data.toList = b.data.toList) : a = b := by rw [← toBA_data a, ← toBA_data b, h]
@[simp] theorem toBA_append (a b : List UInt8) : toBA a ++ toBA b = toBA (a ++ b) := ba_ext (by simp [toBA])
@[simp] theorem toBA_extract (l : List UInt8) (a b : Nat) : (toBA l).extract a b = toBA ((l.drop a).take (b - a)) := ba_ext (by rw [Lib.extract_data]; simp)
theorem toBA_inj {a b : List UInt8} (h : toBA a = toBA b) : a = b := by have := congrArg (fun s => s.data.toList) h; simpa using this
theorem lit_toBA (l : List UInt8) : (⟨l.toArray⟩ : ByteArray) = toBA l := rfl
theorem bt_mid (pre rest : List UInt8) (c : UInt8) : bt (toBA (pre ++ c :: rest)) (pre.length : Int) = (c.toNat : Int) := by
  unfold bt
  simp only [Int.toNat_natCast]
  rw [dif_pos (by simp)]
  simp [toBA, ByteArray.getElem_eq_getElem_data]
theorem bt_at' (l : List UInt8) (i : Nat) (h : i < l.length) : bt (toBA l) (i : Int) = ((l[i]).toNat : Int) := by
  unfold bt
  simp only [Int.toNat_natCast]
  rw [dif_pos (by simpa using h)]
  simp [toBA, ByteArray.getElem_eq_getElem_data]
theorem bytesOf_toBA (l : List UInt8) : bytesOf (toBA l) = l.map fun b => (b.toNat : Int) := by simp [bytesOf]
theorem w64 {x : Int} (h0 : -9223372036854775808 ≤ x) (h1 : x ≤ 9223372036854775807) : wrap64 x = x := by unfold wrap64; omega
theorem u8_lt (c : UInt8) : c.toNat < 256 := c.toNat_lt
theorem ofInt_toNat (x : Int) (h0 : 0 ≤ x) (h1 : x ≤ 255) : ((UInt8.ofNat x.toNat).toNat : Int) = x := by
  simp only [UInt8.toNat_ofNat']; omega
theorem u8_of_int (x : Int) (h0 : 0 ≤ x) (h1 : x ≤ 255) : ∃ b : UInt8, (b.toNat : Int) = x := ⟨_, ofInt_toNat x h0 h1⟩
theorem u8_inj {a b : UInt8} (h : (a.toNat : Int) = (b.toNat : Int)) : a = b := UInt8.toNat_inj.1 (by omega)
theorem strOfNums_nats (l : List UInt8) : strOfNums (l.map fun b => (b.toNat : Int)) = toBA l := by
  apply ba_ext
  simp [strOfNums, Function.comp_def]
theorem strOfNums_one (b : UInt8) : strOfNums [(b.toNat : Int)] = toBA [b] := strOfNums_nats [b]

/-! ### rounds -/
theorem Ev.step' {α : Type} {g : Nat → Option α} {r : α} (k : Ev (fun k => g (k + 1)) r) : Ev g r := Ev.step (fun _ => rfl) k
theorem Ev.const {α : Type} {g : Option α} {r : α} (h : g = some r) : Ev (fun _ => g) r := ⟨0, fun _ _ => h⟩
theorem Ev.det {α : Type} {g : Nat → Option α} {r q : α} (h : Ev g r) (k : Ev g q) : r = q := by
  obtain ⟨K, h⟩ := h
  obtain ⟨K', k⟩ := k
  exact Option.some.inj ((h (max K K') (by omega)).symm.trans (k (max K K') (by omega)))
end Go.Proofs.Ytkdmjkoojipofaa.M
