/- Words of this session: a map that the call makes, as a list of keys and elements, the last written first. -/
import Derived.Test.YtidkhbkndbnnjaaDoorXWords
import Derived.Test.YtidkhbkndbnnjaaDoorProg
import Derived.KernelRfl
import Derived.Maps.OwnSet
import Derived.Maps.OwnOps
import Derived.DeepKeys4
set_option linter.unusedVariables false
set_option linter.unusedSimpArgs false
namespace Go.Proofs.YtidkhbkndbnnjaaDoorW.PrintWords
open Go.RowKit
open Go.Maps Go.WideMaps
/-- A key's type, told as Lean's type α. -/
structure MapKey (P : Program) (k : TypeId) (α : Type) where
  val : α → Value
  ok : α → Prop
  keyed : Keyed P k
  key : ∀ a, ok a → ∃ l, keyOf P k (val a) = some l
  inj : ∀ a b, val a = val b → a = b
/-- An element's type, told as Lean's type β. -/
structure MapEl (P : Program) (e : TypeId) (β : Type) where
  val : β → Value
  ok : β → Prop
  zero : β
  lit : β → Lit
  reads : ∀ b, ok b → plainElem (H := Unit) P e (val b) = some (.lit (lit b), [])
  back : ∀ v b ps, plainElem (H := Unit) P e v = some (.lit (lit b), ps) → v = val b
  zok : ok zero
  zrun : ∀ w, (zeroValue e).run P w = .ok (val zero) w
def mapGet {α β : Type} [DecidableEq α] (z : β) : List (α × β) → α → β
  | [], _ => z
  | p :: r, a => if p.1 = a then p.2 else mapGet z r a
section
variable {P : Program} {k e : TypeId} {α β : Type} [DecidableEq α]
/-- v is a map of the call's own that holds what m tells. -/
def MapOwn (K : MapKey P k α) (E : MapEl P e β) (w : World) (base : Nat) (v : Value) (m : List (α × β)) : Prop :=
  ∃ g D, v = .map (some g) ∧ base ≤ g ∧ w.ownsMap P k (plainElem (H := Unit) P e) g m.length D ∧ Maps.IsMap D ∧ ∀ a l, keyOf P k (K.val a) = some l → D.atKey l (.lit (E.lit E.zero)) = .lit (E.lit (mapGet E.zero m a))
variable {K : MapKey P k α} {E : MapEl P e β} {w w1 : World} {base : Nat} {v : Value} {m : List (α × β)}
theorem MapOwn.made (K : MapKey P k α) (E : MapEl P e β) (w : World) {base : Nat} (h : base ≤ w.heap.size) : MapOwn K E (w.alloc (.map #[] 0)) base (.map (some w.heap.size)) [] :=
  ⟨_, _, rfl, h, World.ownsMap_made _ _ _ _, Maps.isMap_empty, fun a l _ => rfl⟩
theorem MapOwn.grown {row : Option Nat} (h : MapOwn K E w base v m) (hg : w.grownBy w1 row) (hne : ∀ g, v = .map (some g) → some g ≠ row) : MapOwn K E w1 base v m := by
  obtain ⟨g, D, rfl, hb, ho, hD, ha⟩ := h
  exact ⟨g, D, rfl, hb, ho.kept hg (hne g rfl), hD, ha⟩
theorem MapOwn.below (h : MapOwn K E w base v m) (hb : Below w.heap.size w w1) : MapOwn K E w1 base v m :=
  h.grown (row := none) ⟨hb.os, hb.tape, hb.output, hb.size, fun i hi _ => hb.block i hi⟩ (fun _ _ => by simp)
theorem MapOwn.alloc {o : Obj} (h : MapOwn K E w base v m) : MapOwn K E (w.alloc o) base v m := by
  obtain ⟨g, D, rfl, hb, ho, hD, ha⟩ := h
  exact ⟨g, D, rfl, hb, ho.alloc o, hD, ha⟩
theorem MapOwn.drew (h : MapOwn K E w base v m) : MapOwn K E w.drew base v m := h
theorem MapOwn.drewN {n : Nat} (h : MapOwn K E w base v m) : MapOwn K E (w.drewN n) base v m := by
  obtain ⟨g, D, rfl, hb, ho, hD, ha⟩ := h
  refine ⟨g, D, rfl, hb, ?_, hD, ha⟩
  obtain ⟨es, c, h1, h2⟩ := ho
  exact ⟨es, c, h1, h2⟩
/-- A store into a row of cells. -/
theorem MapOwn.setCell {p : Addr} {u : Value} {cells : Array Value} {t : TypeId} (h : MapOwn K E w base v m) (hp : w.heap[p.block]? = some (.cells cells t (0, 0))) : MapOwn K E (w.setCell p u) base v m := by
  obtain ⟨g, D, rfl, hb, ho, hD, ha⟩ := h
  refine ⟨g, D, rfl, hb, ho.setCell (fun e => ?_) u, hD, ha⟩
  obtain ⟨es, c, h1, _⟩ := ho
  rw [← e, h1] at hp
  cases hp
/-- A store anywhere: a map's block is no row of cells. -/
theorem MapOwn.setAny {p : Addr} {u : Value} (h : MapOwn K E w base v m) : MapOwn K E (w.setCell p u) base v m := by
  obtain ⟨g, D, rfl, hb, ho, hD, ha⟩ := h
  refine ⟨g, D, rfl, hb, ?_, hD, ha⟩
  obtain ⟨es, c, h1, h2⟩ := ho
  refine ⟨es, c, ?_, h2⟩
  simp only [World.setCell, Array.getElem?_modify, h1]
  split <;> rfl
theorem MapOwn.look {t : TypeId} (h : MapOwn K E w base v m) (ht : P.underlying t = some (.map k e)) (a : α) (hok : K.ok a) : (Instr.lookup t v (K.val a) false).run P w = .ok (E.val (mapGet E.zero m a)) w := by
  obtain ⟨g, D, rfl, hb, ho, hD, ha⟩ := h
  obtain ⟨l, hl⟩ := K.key a hok
  obtain ⟨u, ps, hrun, hu⟩ := ho.lookup K.keyed ht (E.zrun w) (E.reads _ E.zok) hl
  rw [ha a l hl] at hu
  rw [hrun, E.back _ _ _ hu]
theorem wpList_lookup_map {ops : Array Oper} {rest : List Oper} {o : Oper} {a : Act} {Q : Exit → Act → World → Prop}
    (hg : o.guard = none) (mo x : Operand) (t : TypeId) (hop : o.op = Op.lookup t mo x false) (ht : P.underlying t = some (.map k e))
    (key : α) (hok : K.ok key) (hm : a.eval mo = v) (hx : a.eval x = K.val key) (hown : MapOwn K E w base v m)
    (hK : wpList P ops Q rest (a.put o.dst (E.val (mapGet E.zero m key))) w) : wpList P ops Q (o :: rest) a w := by
  refine wpList_plain hg fun K' hK' => ?_
  have hrun := hown.look ht key hok
  unfold Oper.wp
  simp [execOp, hop, hm, hx, hrun, Result.andThen]
  exact hK' _ _ hK
theorem wpList_mapUpdate_map {ops : Array Oper} {rest : List Oper} {o : Oper} {a : Act} {Q : Exit → Act → World → Prop}
    (hg : o.guard = none) (mo x y : Operand) (t : TypeId) (hop : o.op = Op.mapUpdate t mo x y) (ht : P.underlying t = some (.map k e))
    (key : α) (el : β) (hok : K.ok key) (hel : E.ok el) (hm : a.eval mo = v) (hx : a.eval x = K.val key) (hy : a.eval y = E.val el) (hown : MapOwn K E w base v m) (hn : m.length < 9223372036854775807)
    (hK : ∀ w', MapOwn K E w' base v ((key, el) :: m) → (∀ g, v = .map (some g) → w.grownBy w' (some g)) → wpList P ops Q rest (a.put o.dst undef) w') : wpList P ops Q (o :: rest) a w := by
  obtain ⟨g, D, rfl, hb, ho, hD, ha⟩ := hown
  obtain ⟨l, hl⟩ := K.key key hok
  refine wpList_mapUpdate_own w hg mo x y t hop k e K.keyed ht _ g m.length D hm ho (by unfold maxLen; omega) (K.val key) (E.val el) l hx hy hl _ [] (E.reads el hel) ?_
  intro w' h1 h2
  refine hK w' ⟨g, _, rfl, hb, h1, hD.put _ _, fun a' l' hl' => ?_⟩ (fun g' e => by injection e with e; injection e with e; subst e; exact h2)
  by_cases he : l' = l
  · subst he
    have : a' = key := K.inj _ _ (K.keyed.inj hl' hl)
    subst this
    rw [Maps.atKey_put_same hD (K.keyed.key hl)]
    simp [mapGet]
  · rw [Maps.atKey_put_other he, ha a' l' hl']
    have : ¬ key = a' := fun e => by subst e; rw [hl] at hl'; exact he (Option.some.inj hl').symm
    simp [mapGet, this]
theorem wpList_makeMap_map {ops : Array Oper} {rest : List Oper} {o : Oper} {a : Act} {Q : Exit → Act → World → Prop} (K : MapKey P k α) (E : MapEl P e β)
    (hg : o.guard = none) (t : TypeId) (hop : o.op = Op.makeMap t none) (hbase : base ≤ w.heap.size)
    (hK : ∀ v w', MapOwn K E w' base v [] → Below w.heap.size w w' → wpList P ops Q rest (a.put o.dst v) w') : wpList P ops Q (o :: rest) a w := by
  refine wpList_plain hg fun K' hK' => ?_
  have hrun := run_makeMap (P := P) t w
  unfold Oper.wp
  simp [execOp, hop, hrun, Result.andThen]
  exact hK' _ _ (hK _ _ (MapOwn.made K E w hbase) ((Below.refl _ _).alloc (Nat.le_refl _) _))
/-- The call's rows stay what they are behind a store into a map. -/
theorem Kd.R_mapped {γ : Type} {d : Kd γ} {q base' : Nat} {ok : Nat → Prop} {u : Value} {xs : List γ} (h : d.R q w base' ok u xs) (hown : MapOwn K E w base v m) (hg : ∀ g, v = .map (some g) → w.grownBy w1 (some g)) : d.R q w1 base' ok u xs := by
  obtain ⟨g, D, rfl, hb, ho, hD, ha⟩ := hown
  refine Kd.R_mono (Kd.R_grown (Kd.R_bound h) (hg g rfl) (fun j hj e => ?_)) (fun _ hk => hk.1)
  obtain ⟨_, _, _, q', _, cells, hc⟩ := hj
  obtain ⟨es, c, h1, _⟩ := ho
  injection e with e
  subst e
  rw [h1] at hc
  cases hc
theorem below_mapped {W : World} (h : Below W.heap.size W w) (hown : MapOwn K E w base v m) (hbase : W.heap.size ≤ base) (hg : ∀ g, v = .map (some g) → w.grownBy w1 (some g)) : Below W.heap.size W w1 := by
  obtain ⟨g, D, rfl, hb, ho, hD, ha⟩ := hown
  exact h.grown (hg g rfl) h.size (fun j hj => by injection hj with hj; omega)
end
/-! ### the keys and the elements -/
noncomputable def strKey {P : Program} {k : TypeId} (hk : P.underlying k = some .string) : MapKey P k ByteArray where
  val := Value.string
  ok := fun s => s.size ≤ 9223372036854775807
  keyed := Maps.string_keyed hk
  key := fun a h => ⟨_, keyOf_string_mk hk h⟩
  inj := fun a b h => by injection h
theorem keyOf_pair {P : Program} {k : TypeId} {f0 f1 : Field} (hk : P.underlying k = some (.struct #[f0, f1])) (hkt : P.keyType k = true) (hc : P.cellsOf k = 2) (h0 : P.underlying f0.type = some .string) (h1 : P.underlying f1.type = some .string)
    (o0 : f0.offset = 0) (o1 : f1.offset = 1) (c0 : P.cellsOf f0.type = 1) (c1 : P.cellsOf f1.type = 1) (n0 : (f0.name != "_") = true) (n1 : (f1.name != "_") = true) {m : Nat} (hm : P.types.size = m + 1) (a b : ByteArray) (ha : a.size ≤ 9223372036854775807) (hb : b.size ≤ 9223372036854775807) :
    keyOf P k (.agg #[.string a, .string b]) = some (.string (keyBytes [.string a.data.toList, .string b.data.toList])) := by
  have ha' : a.size ≤ maxLen := by unfold maxLen; exact ha
  have hb' : b.size ≤ maxLen := by unfold maxLen; exact hb
  have hn : (#[f0, f1].all fun x => x.name != "_") = true := by simp [n0, n1]
  have e0 : P.keyLits (m + 1) f0.type [.string a] = some [.string a.data.toList] := by
    unfold Program.keyLits; simp [h0, ha']
  have e1 : P.keyLits (m + 1) f1.type [.string b] = some [.string b.data.toList] := by
    unfold Program.keyLits; simp [h1, hb']
  have e : P.keyLits (m + 1 + 1) k [.string a, .string b] = some [.string a.data.toList, .string b.data.toList] := by
    unfold Program.keyLits
    simp only [hk, hc, hn, List.length_cons, List.length_nil]
    simp [o0, o1, c0, c1, e0, e1]
  unfold keyOf
  simp only [hk, hkt, Value.formed, hc, Bool.true_and, hm]
  have ec : (Value.agg #[.string a, .string b]).cells.toList = [.string a, .string b] := by simp [Value.cells]
  rw [ec, e]; rfl
noncomputable def pairKey {P : Program} {k : TypeId} {f0 f1 : Field} (hk : P.underlying k = some (.struct #[f0, f1])) (hkt : P.keyType k = true) (hc : P.cellsOf k = 2) (h0 : P.underlying f0.type = some .string) (h1 : P.underlying f1.type = some .string)
    (o0 : f0.offset = 0) (o1 : f1.offset = 1) (c0 : P.cellsOf f0.type = 1) (c1 : P.cellsOf f1.type = 1) (n0 : (f0.name != "_") = true) (n1 : (f1.name != "_") = true) {m : Nat} (hm : P.types.size = m + 1) (law : WideMaps.KeyLaw P k) : MapKey P k (ByteArray × ByteArray) where
  val := fun p => .agg #[.string p.1, .string p.2]
  ok := fun p => p.1.size ≤ 9223372036854775807 ∧ p.2.size ≤ 9223372036854775807
  keyed := Maps.Keyed.of_law law
  key := fun p h => ⟨_, keyOf_pair hk hkt hc h0 h1 o0 o1 c0 c1 n0 n1 hm p.1 p.2 h.1 h.2⟩
  inj := fun p q h => by
    simp at h
    exact Prod.ext h.1 h.2
theorem boolEl_back {P : Program} {e : TypeId} (he : P.underlying e = some .bool) (v : Value) (b : Bool) (ps : List MemPlace) (h : plainElem (H := Unit) P e v = some (.lit (.bool b), ps)) : v = .bool b := by
  unfold plainElem at h
  rw [he] at h
  cases v <;> simp at h
  rw [h.1]
noncomputable def boolEl {P : Program} {e : TypeId} (he : P.underlying e = some .bool) (hz : ∀ w, (zeroValue e).run P w = .ok (.bool false) w) : MapEl P e Bool where
  val := Value.bool
  ok := fun _ => True
  zero := false
  lit := Lit.bool
  reads := fun b _ => plainElem_bool he b
  back := boolEl_back he
  zok := trivial
  zrun := hz
noncomputable def intEl {P : Program} {e : TypeId} {q : IntKind} (he : P.underlying e = some (.int q)) (hz : ∀ w, (zeroValue e).run P w = .ok (.int q 0) w) : MapEl P e Int where
  val := Value.int q
  ok := fun n => (Lit.int q n).wf = true
  zero := 0
  lit := Lit.int q
  reads := fun b h => plainElem_int he h
  back := fun v b ps h => by
    obtain ⟨a, rfl, hz, _⟩ := plainElem_int_inv he h
    simp only [Prod.mk.injEq, DataW.lit.injEq, Lit.int.injEq, true_and] at hz
    rw [hz.1]
  zok := by cases q <;> decide
  zrun := hz
section
variable {P : Program} {k e : TypeId} {α : Type} [DecidableEq α] {K : MapKey P k α} {w : World} {base : Nat} {v : Value}
theorem wpList_lookup_map_bool {ops : Array Oper} {rest : List Oper} {o : Oper} {a : Act} {Q : Exit → Act → World → Prop} (hz : ∀ w, (zeroValue e).run P w = .ok (.bool false) w) (m : List (α × Bool)) (he : P.underlying e = some .bool)
    (hg : o.guard = none) (mo x : Operand) (t : TypeId) (hop : o.op = Op.lookup t mo x false) (ht : P.underlying t = some (.map k e))
    (key : α) (hok : K.ok key) (hm : a.eval mo = v) (hx : a.eval x = K.val key) (hown : MapOwn K (boolEl he hz) w base v m)
    (hK : wpList P ops Q rest (a.put o.dst (.bool (mapGet false m key))) w) : wpList P ops Q (o :: rest) a w :=
  wpList_lookup_map hg mo x t hop ht key hok hm hx hown hK
theorem wpList_mapUpdate_map_bool {ops : Array Oper} {rest : List Oper} {o : Oper} {a : Act} {Q : Exit → Act → World → Prop} (hz : ∀ w, (zeroValue e).run P w = .ok (.bool false) w) (he : P.underlying e = some .bool) (m : List (α × Bool))
    (hg : o.guard = none) (mo x y : Operand) (t : TypeId) (hop : o.op = Op.mapUpdate t mo x y) (ht : P.underlying t = some (.map k e))
    (key : α) (el : Bool) (hok : K.ok key) (hm : a.eval mo = v) (hx : a.eval x = K.val key) (hy : a.eval y = .bool el) (hown : MapOwn K (boolEl he hz) w base v m) (hn : m.length < 9223372036854775807)
    (hK : ∀ w', MapOwn K (boolEl he hz) w' base v ((key, el) :: m) → (∀ g, v = .map (some g) → w.grownBy w' (some g)) → wpList P ops Q rest (a.put o.dst undef) w') : wpList P ops Q (o :: rest) a w :=
  wpList_mapUpdate_map hg mo x y t hop ht key el hok trivial hm hx hy hown hn hK
theorem wpList_lookup_map_int {ops : Array Oper} {rest : List Oper} {o : Oper} {a : Act} {Q : Exit → Act → World → Prop} {q : IntKind} (hz : ∀ w, (zeroValue e).run P w = .ok (.int q 0) w) (m : List (α × Int)) (he : P.underlying e = some (.int q))
    (hg : o.guard = none) (mo x : Operand) (t : TypeId) (hop : o.op = Op.lookup t mo x false) (ht : P.underlying t = some (.map k e))
    (key : α) (hok : K.ok key) (hm : a.eval mo = v) (hx : a.eval x = K.val key) (hown : MapOwn K (intEl he hz) w base v m)
    (hK : wpList P ops Q rest (a.put o.dst (.int q (mapGet 0 m key))) w) : wpList P ops Q (o :: rest) a w :=
  wpList_lookup_map hg mo x t hop ht key hok hm hx hown hK
theorem wpList_mapUpdate_map_int {ops : Array Oper} {rest : List Oper} {o : Oper} {a : Act} {Q : Exit → Act → World → Prop} {q : IntKind} (hz : ∀ w, (zeroValue e).run P w = .ok (.int q 0) w) (he : P.underlying e = some (.int q)) (m : List (α × Int))
    (hg : o.guard = none) (mo x y : Operand) (t : TypeId) (hop : o.op = Op.mapUpdate t mo x y) (ht : P.underlying t = some (.map k e))
    (key : α) (el : Int) (hok : K.ok key) (hel : (Lit.int q el).wf = true) (hm : a.eval mo = v) (hx : a.eval x = K.val key) (hy : a.eval y = .int q el) (hown : MapOwn K (intEl he hz) w base v m) (hn : m.length < 9223372036854775807)
    (hK : ∀ w', MapOwn K (intEl he hz) w' base v ((key, el) :: m) → (∀ g, v = .map (some g) → w.grownBy w' (some g)) → wpList P ops Q rest (a.put o.dst undef) w') : wpList P ops Q (o :: rest) a w :=
  wpList_mapUpdate_map hg mo x y t hop ht key el hok hel hm hx hy hown hn hK
end
section
variable {P : Program} {k e : TypeId} {K : MapKey P k (ByteArray × ByteArray)} {w : World} {base : Nat} {v : Value}
/-- The key is a struct of two strings. -/
structure PairKey (K : MapKey P k (ByteArray × ByteArray)) : Prop where
  val : ∀ a b, K.val (a, b) = .agg #[.string a, .string b]
  ok : ∀ a b : ByteArray, a.size ≤ 9223372036854775807 → b.size ≤ 9223372036854775807 → K.ok (a, b)
def mapGetP (m : List ((ByteArray × ByteArray) × Bool)) (p : ByteArray × ByteArray) : Bool := mapGet false m p
theorem wpList_lookup_pair_bool {ops : Array Oper} {rest : List Oper} {o : Oper} {a : Act} {Q : Exit → Act → World → Prop} (hK2 : PairKey K) (hz : ∀ w, (zeroValue e).run P w = .ok (.bool false) w) (m : List ((ByteArray × ByteArray) × Bool)) (he : P.underlying e = some .bool)
    (hg : o.guard = none) (mo x : Operand) (t : TypeId) (hop : o.op = Op.lookup t mo x false) (ht : P.underlying t = some (.map k e))
    (s1 s2 : ByteArray) (h1 : s1.size ≤ 9223372036854775807) (h2 : s2.size ≤ 9223372036854775807) (hm : a.eval mo = v) (hx : a.eval x = .agg #[.string s1, .string s2]) (hown : MapOwn K (boolEl he hz) w base v m)
    (hK : wpList P ops Q rest (a.put o.dst (.bool (mapGetP m (s1, s2)))) w) : wpList P ops Q (o :: rest) a w :=
  wpList_lookup_map hg mo x t hop ht (s1, s2) (hK2.ok _ _ h1 h2) hm (hx.trans (hK2.val _ _).symm) hown hK
theorem wpList_mapUpdate_pair_bool {ops : Array Oper} {rest : List Oper} {o : Oper} {a : Act} {Q : Exit → Act → World → Prop} (hK2 : PairKey K) (hz : ∀ w, (zeroValue e).run P w = .ok (.bool false) w) (he : P.underlying e = some .bool) (m : List ((ByteArray × ByteArray) × Bool))
    (hg : o.guard = none) (mo x y : Operand) (t : TypeId) (hop : o.op = Op.mapUpdate t mo x y) (ht : P.underlying t = some (.map k e))
    (s1 s2 : ByteArray) (el : Bool) (h1 : s1.size ≤ 9223372036854775807) (h2 : s2.size ≤ 9223372036854775807) (hm : a.eval mo = v) (hx : a.eval x = .agg #[.string s1, .string s2]) (hy : a.eval y = .bool el) (hown : MapOwn K (boolEl he hz) w base v m) (hn : m.length < 9223372036854775807)
    (hK : ∀ w', MapOwn K (boolEl he hz) w' base v (((s1, s2), el) :: m) → (∀ g, v = .map (some g) → w.grownBy w' (some g)) → wpList P ops Q rest (a.put o.dst undef) w') : wpList P ops Q (o :: rest) a w :=
  wpList_mapUpdate_map hg mo x y t hop ht (s1, s2) el (hK2.ok _ _ h1 h2) trivial hm (hx.trans (hK2.val _ _).symm) hy hown hn hK
end
noncomputable abbrev K47 : MapKey Tryd.prog 9 ByteArray := strKey Tryd.underlying9
theorem z47 : ∀ w, (zeroValue 4).run Tryd.prog w = .ok (.bool false) w := fun w => by kernel_rfl
noncomputable abbrev E47 : MapEl Tryd.prog 4 Bool := boolEl Tryd.underlying4 z47
noncomputable def K50 : MapKey Tryd.prog 52 (ByteArray × ByteArray) := pairKey Tryd.underlying52 (by kernel_rfl) (by kernel_rfl) Tryd.underlying9 Tryd.underlying9 rfl rfl (by kernel_rfl) (by kernel_rfl) rfl rfl (m := 69) (by kernel_rfl) (deep_law_laid (m := 2) (by kernel_rfl) (by omega) (of_decide_eq_true (by kernel_rfl) : 52 < Tryd.prog.types.size) (by kernel_rfl) (by rw [Tryd.underlying52]))
theorem pk50 : PairKey K50 := ⟨fun _ _ => rfl, fun _ _ h1 h2 => ⟨h1, h2⟩⟩
theorem z50 : ∀ w, (zeroValue 4).run Tryd.prog w = .ok (.bool false) w := fun w => by kernel_rfl
noncomputable abbrev E50 : MapEl Tryd.prog 4 Bool := boolEl Tryd.underlying4 z50
end Go.Proofs.YtidkhbkndbnnjaaDoorW.PrintWords
