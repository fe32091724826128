/- Opening an argument's reading as a value of a kind of the print's (Kd): strings, whole numbers, bools, slices and states of these, as deep as you like. No program in sight. -/
import Derived.Test.YtkdmjkoojipofaaXWords
import Derived.ChangeArms
import Derived.ChangeSame
import Derived.SizedLaws
import Derived.DataElems
set_option linter.unusedVariables false
set_option linter.unusedSimpArgs false
namespace Go.Proofs.Ytkdmjkoojipofaa.M
open Go.RowKit Go.Proofs.YtkdmjkoojipofaaW.PrintWords Go.ChangeShapes
/-- What reads as a datum of type t is a value of the kind d, of which S holds. -/
def Opens {α : Type} (P : Program) (d : Kd α) (t : TypeId) (S : α → Prop) : Prop :=
  ∀ (H : Type) (enc : TypeId × Value → H) (w : World) (base : Nat) (sp : Nat → Bool) (held : Bool) (fuel : Nat) (cs : List Value) (y : DataW H × List MemPlace),
    DataW.trod enc P w base sp held fuel t cs = some y → (∀ n ∈ y.1.weights P t, n ≤ reachBytes) → ∃ x, d.K w x cs ∧ S x
theorem opens_string {P : Program} {t : TypeId} (ht : P.underlying t = some .string) : Opens P Kd.string t (fun s => s.size ≤ 140737488351232) := by
  intro H enc w base sp held fuel cs y h hz
  obtain ⟨s, rfl, rfl, _⟩ := DataW.trod_string ht h
  refine ⟨s, rfl, ?_⟩
  have := hz s.data.toList.length (by simp [DataW.weights])
  rw [Array.length_toList] at this
  exact this
theorem opens_int {P : Program} {t : TypeId} {k : IntKind} (ht : P.underlying t = some (.int k)) : Opens P (Kd.int k) t (fun n => (Lit.int k n).wf = true) := by
  intro H enc w base sp held fuel cs y h hz
  obtain ⟨n, rfl, rfl, hw⟩ := DataW.trod_int ht h
  exact ⟨n, rfl, hw⟩
theorem opens_bool {P : Program} {t : TypeId} (ht : P.underlying t = some .bool) : Opens P Kd.bool t (fun _ => True) := by
  intro H enc w base sp held fuel cs y h hz
  obtain ⟨b, rfl, rfl⟩ := DataW.trod_bool ht h
  exact ⟨b, rfl, trivial⟩
theorem weights_all {H : Type} {P : Program} {e : TypeId} {l : List (DataW H)} {d : DataW H} (hd : d ∈ l) : ∀ n ∈ d.weights P e, n ∈ DataW.weightsAll P e l := by
  induction l with
  | nil => simp at hd
  | cons a r ih =>
    intro n hn
    simp only [DataW.weightsAll, List.mem_append]
    rcases List.mem_cons.1 hd with rfl | hd
    · exact .inl hn
    · exact .inr (ih hd n hn)
theorem opens_slice {α : Type} {P : Program} {d : Kd α} {t e : TypeId} {S : α → Prop} (ht : P.underlying t = some (.slice e)) (hc : P.cellsOf e = d.sz) (h : Opens P d e S) :
    Opens P (Kd.slice e d) t (fun xs => xs.length * P.bytesOf e ≤ 140737488351232 ∧ ∀ x ∈ xs, S x) := by
  intro H enc w base sp held fuel cs y hy hz
  rcases DataW.trod_slice ht hy with ⟨rfl, rfl⟩ | ⟨a, len, cap, elems, rest, n, _, rfl, rfl, hb, hl, hm, hlen, hel, hsp, hns⟩
  · exact ⟨[], ⟨none, 0, rfl, Nat.le_refl _, rfl, by simp, fun h => absurd h (by simp)⟩, by simp, by simp⟩
  · have hz0 := hz (((elems.map (·.1)).length + (rest.map (·.1)).length) * P.bytesOf e) (by simp [DataW.weights, ht])
    have each : ∀ i : Nat, i < len → ∃ x : α, (∃ c, c.length = d.sz ∧ d.K w x c ∧ ∀ j u, c[j]? = some u → w.cell? (a.add (i * d.sz + j)) = some u) ∧ S x := by
      intro i hi
      have he := hel i hi
      rw [List.getElem?_eq_getElem (by omega : i < elems.length), Option.bind_eq_some_iff] at he
      obtain ⟨c, hcs, hcy⟩ := he
      have hmem : elems[i].1 ∈ elems.map (·.1) := List.mem_map_of_mem (List.getElem_mem _)
      obtain ⟨x, hx, hS⟩ := h H enc w base sp held n c _ hcy (fun m hm => hz m (by
        simp only [DataW.weights, ht]
        exact List.mem_cons_of_mem _ (List.mem_append_left _ (weights_all hmem m hm))))
      obtain ⟨_, hcl, hcell⟩ := World.cells?_some hcs
      refine ⟨x, ⟨c, by omega, hx, fun j u hj => ?_⟩, hS⟩
      have hjl : j < c.length := (List.getElem?_eq_some_iff.1 hj).1
      have := hcell j (by omega)
      rw [Addr.add_add, hc] at this
      rw [this, hj]
    obtain ⟨xs, hxl, hxs⟩ : ∃ xs : List α, xs.length = len ∧ ∀ i x, xs[i]? = some x → (∃ c, c.length = d.sz ∧ d.K w x c ∧ ∀ j u, c[j]? = some u → w.cell? (a.add (i * d.sz + j)) = some u) ∧ S x := by
      have aux : ∀ m, m ≤ len → ∃ xs : List α, xs.length = m ∧ ∀ i x, xs[i]? = some x → (∃ c, c.length = d.sz ∧ d.K w x c ∧ ∀ j u, c[j]? = some u → w.cell? (a.add (i * d.sz + j)) = some u) ∧ S x := by
        intro m
        induction m with
        | zero => exact fun _ => ⟨[], rfl, fun i x h => by simp at h⟩
        | succ m ih =>
          intro hm
          obtain ⟨xs, hl, hx⟩ := ih (by omega)
          obtain ⟨x, hx1⟩ := each m (by omega)
          refine ⟨xs ++ [x], by simp [hl], fun i z hz => ?_⟩
          by_cases hi : i < xs.length
          · rw [List.getElem?_append_left hi] at hz
            exact hx i z hz
          · rw [List.getElem?_append_right (by omega)] at hz
            have h0 : i - xs.length = 0 := by have := (List.getElem?_eq_some_iff.1 hz).1; simp at this; omega
            rw [h0] at hz
            obtain rfl : x = z := by simpa using hz
            obtain rfl : i = m := by omega
            exact hx1
      exact aux len (Nat.le_refl _)
    refine ⟨xs, ⟨some a, cap, by rw [hxl], by omega, rfl, by rw [hxl]; unfold maxLen at hm; omega, fun _ => ⟨a, rfl, fun j p hj => (hxs j p hj).1⟩⟩, ?_, fun x hx => ?_⟩
    · have : xs.length * P.bytesOf e ≤ ((elems.map (·.1)).length + (rest.map (·.1)).length) * P.bytesOf e := Nat.mul_le_mul_right _ (by simp; omega)
      exact Nat.le_trans this hz0
    · obtain ⟨i, hi⟩ := List.getElem?_of_mem hx
      exact (hxs i x hi).2
theorem opens_iso {α β : Type} {P : Program} {d : Kd α} {t : TypeId} {S : α → Prop} (f : β → α) (g : α → β) (hfg : ∀ x, f (g x) = x) (h : Opens P d t S) : Opens P (Kd.iso d f) t (fun x => S (f x)) := by
  intro H enc w base sp held fuel cs y hy hz
  obtain ⟨x, hx, hS⟩ := h H enc w base sp held fuel cs y hy hz
  refine ⟨g x, ?_, ?_⟩
  · show d.K w (f (g x)) cs
    rw [hfg]; exact hx
  · show S (f (g x))
    rw [hfg]; exact hS
theorem opens_struct2 {α β : Type} {P : Program} {a : Kd α} {b : Kd β} {t : TypeId} {f0 f1 : Field} {S0 : α → Prop} {S1 : β → Prop} (ht : P.underlying t = some (.struct #[f0, f1])) (hcs : P.cellsOf t = a.sz + b.sz)
    (o0 : f0.offset = 0) (o1 : f1.offset = a.sz) (c0 : P.cellsOf f0.type = a.sz) (c1 : P.cellsOf f1.type = b.sz) (h0 : Opens P a f0.type S0) (h1 : Opens P b f1.type S1) :
    Opens P (Kd.pair a b) t (fun x => S0 x.1 ∧ S1 x.2) := by
  intro H enc w base sp held fuel cs y hy hz
  obtain ⟨y0, y1, n, rfl, hl, e0, e1⟩ := trod_struct2 ht hy
  obtain ⟨x0, k0, s0⟩ := h0 H enc w base sp held n _ _ e0 (fun m hm => hz m (by simp only [DataW.weights, ht, DataW.weightsEach, List.map_cons, List.mem_append]; exact .inl hm))
  obtain ⟨x1, k1, s1⟩ := h1 H enc w base sp held n _ _ e1 (fun m hm => hz m (by simp only [DataW.weights, ht, DataW.weightsEach, List.map_cons, List.mem_append]; exact .inr (.inl hm)))
  refine ⟨(x0, x1), ⟨_, _, ?_, k0, k1⟩, s0, s1⟩
  rw [o0, o1, c0, c1, List.drop_zero]
  conv => lhs; rw [← List.take_append_drop a.sz cs]
  congr 1
  exact (List.take_of_length_le (by simp; omega)).symm
theorem opens_struct3 {α β γ : Type} {P : Program} {a : Kd α} {b : Kd β} {c : Kd γ} {t : TypeId} {f0 f1 f2 : Field} {S0 : α → Prop} {S1 : β → Prop} {S2 : γ → Prop} (ht : P.underlying t = some (.struct #[f0, f1, f2])) (hcs : P.cellsOf t = a.sz + (b.sz + c.sz))
    (o0 : f0.offset = 0) (o1 : f1.offset = a.sz) (o2 : f2.offset = a.sz + b.sz) (c0 : P.cellsOf f0.type = a.sz) (c1 : P.cellsOf f1.type = b.sz) (c2 : P.cellsOf f2.type = c.sz) (h0 : Opens P a f0.type S0) (h1 : Opens P b f1.type S1) (h2 : Opens P c f2.type S2) :
    Opens P (Kd.pair a (Kd.pair b c)) t (fun x => S0 x.1 ∧ S1 x.2.1 ∧ S2 x.2.2) := by
  intro H enc w base sp held fuel cs y hy hz
  obtain ⟨xs, n, _, rfl, hl, hlen, hf⟩ := DataW.trod_struct ht hy
  match xs, hlen with
  | [y0, y1, y2], _ =>
    have e0 := hf 0 f0 rfl
    have e1 := hf 1 f1 rfl
    have e2 := hf 2 f2 rfl
    simp only [List.getElem?_cons_zero, List.getElem?_cons_succ] at e0 e1 e2
    obtain ⟨x0, k0, s0⟩ := h0 H enc w base sp held n _ _ e0 (fun m hm => hz m (by simp only [DataW.weights, ht, DataW.weightsEach, List.map_cons, List.mem_append]; exact .inl hm))
    obtain ⟨x1, k1, s1⟩ := h1 H enc w base sp held n _ _ e1 (fun m hm => hz m (by simp only [DataW.weights, ht, DataW.weightsEach, List.map_cons, List.mem_append]; exact .inr (.inl hm)))
    obtain ⟨x2, k2, s2⟩ := h2 H enc w base sp held n _ _ e2 (fun m hm => hz m (by simp only [DataW.weights, ht, DataW.weightsEach, List.map_cons, List.mem_append]; exact .inr (.inr (.inl hm))))
    refine ⟨(x0, x1, x2), ⟨_, _, ?_, k0, ⟨_, _, rfl, k1, k2⟩⟩, s0, s1, s2⟩
    rw [o0, o1, o2, c0, c1, c2, List.drop_zero]
    have e : (cs.drop a.sz) = (cs.drop a.sz).take b.sz ++ (cs.drop (a.sz + b.sz)).take c.sz := by
      conv => lhs; rw [← List.take_append_drop b.sz (cs.drop a.sz)]
      rw [List.drop_drop]
      congr 1
      exact (List.take_of_length_le (by simp; omega)).symm
    rw [← e, List.take_append_drop]
/-- An argument that is a slice, opened. -/
theorem opens_arg {α : Type} {P : Program} {d : Kd α} {t e : TypeId} {S : List α → Prop} {H : Type} {enc : TypeId × Value → H} {W : World} {base : Nat} {sp : Nat → Bool} {held : Bool} {a : Option Addr} {len cap : Nat} {dat : DataW H} {ps : List MemPlace} {ts : List TypeId} {ds : List (DataW H)} {j : Nat}
    (ho : Opens P (Kd.slice e d) t S) (hsz : (DataW.weightsEach P ts ds).all (· ≤ reachBytes) = true) (ht : ts[j]? = some t) (hd : ds[j]? = some dat) (h : DataW.Trod enc P W base sp held t (.slice a len cap) dat ps) :
    ∃ xs : List α, len = xs.length ∧ xs.length ≤ cap ∧ d.C W a xs.length xs ∧ S xs := by
  obtain ⟨fuel, hf⟩ := h
  obtain ⟨xs, ⟨A, c, hcs, hl, hC⟩, hS⟩ := ho H enc W base sp held fuel _ _ hf (fun n hn => by
    have := List.all_eq_true.1 hsz n (DataW.weights_mem_each ht hd n hn)
    simpa using this)
  have e1 : (Value.slice a len cap) = .slice A xs.length c := by simpa [Value.cells] using hcs
  injection e1 with e1 e2 e3
  subst e1 e2 e3
  exact ⟨xs, rfl, hl, hC, hS⟩
end Go.Proofs.Ytkdmjkoojipofaa.M
