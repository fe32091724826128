-- Made smaller by wip/squeeze.py out of this claim's texts. Not trusted: Lean checks it.
import Derived.ChangeArms
import Derived.ChangeSame
import Derived.SizedLaws
import Derived.DataElems
import Derived.Test.YtldaingkcnmaoaaDoorX0
set_option linter.unusedVariables false
set_option linter.unusedSimpArgs false
namespace Go.Proofs.YtldaingkcnmaoaaDoor.M
open Go.RowKit Go.Proofs.YtldaingkcnmaoaaDoorW.PrintWords Go.ChangeShapes
def Opens {α : Type} (P : Program) (d : Kd α) (t : TypeId) (S : α → Prop) : Prop :=
  ∀ (H : Type) (enc : TypeId × Value → H) (w : World) (base : Nat) (sp : Nat → Bool) (held : Bool) (fuel : Nat) (cs : List Value) (y : DataW H × List MemPlace),
    DataW.trod enc P w base sp held fuel t cs = some y → (∀ n ∈ y.1.weights P t, n ≤ reachBytes) → ∃ x, d.K w x cs ∧ S x
theorem weights_all {H : Type} {P : Program} {e : TypeId} {l : List (DataW H)} {d : DataW H} (hd : d ∈ l) : ∀ n ∈ d.weights P e, n ∈ DataW.weightsAll P e l := by
  induction l with
  | nil => simp at hd
  | cons a r ih =>
    intro n hn
    simp only [DataW.weightsAll, List.mem_append]
    rcases List.mem_cons.1 hd with rfl | hd
    · exact .inl hn
    · exact .inr (ih hd n hn)
theorem opens_slice {α : Type} {P : Program} {d : Kd α} {t e : TypeId} {S : α → Prop} (ht : P.underlying t = some (.slice e)) (hc : P.cellsOf e = d.sz) (h : Opens P d e S) :
    Opens P (Kd.slice e d) t (fun xs => xs.length * P.bytesOf e ≤ 140737488351232 ∧ ∀ x ∈ xs, S x) := by
  intro H enc w base sp held fuel cs y hy hz
  rcases DataW.trod_slice ht hy with ⟨rfl, rfl⟩ | ⟨a, len, cap, elems, rest, n, _, rfl, rfl, hb, hl, hm, hlen, hel, hsp, hns⟩
  · exact ⟨[], ⟨none, 0, rfl, Nat.le_refl _, rfl, by simp, fun h => absurd h (by simp)⟩, by simp, by simp⟩
  · have hz0 := hz (((elems.map (·.1)).length + (rest.map (·.1)).length) * P.bytesOf e) (by simp [DataW.weights, ht])
    have each : ∀ i : Nat, i < len → ∃ x : α, (∃ c, c.length = d.sz ∧ d.K w x c ∧ ∀ j u, c[j]? = some u → w.cell? (a.add (i * d.sz + j)) = some u) ∧ S x := by
      intro i hi
      have he := hel i hi
      rw [List.getElem?_eq_getElem (by omega : i < elems.length), Option.bind_eq_some_iff] at he
      obtain ⟨c, hcs, hcy⟩ := he
      have hmem : elems[i].1 ∈ elems.map (·.1) := List.mem_map_of_mem (List.getElem_mem _)
      obtain ⟨x, hx, hS⟩ := h H enc w base sp held n c _ hcy (fun m hm => hz m (by
        simp only [DataW.weights, ht]
        exact List.mem_cons_of_mem _ (List.mem_append_left _ (weights_all hmem m hm))))
      obtain ⟨_, hcl, hcell⟩ := World.cells?_some hcs
      refine ⟨x, ⟨c, by omega, hx, fun j u hj => ?_⟩, hS⟩
      have hjl : j < c.length := (List.getElem?_eq_some_iff.1 hj).1
      have := hcell j (by omega)
      rw [Addr.add_add, hc] at this
      rw [this, hj]
    obtain ⟨xs, hxl, hxs⟩ : ∃ xs : List α, xs.length = len ∧ ∀ i x, xs[i]? = some x → (∃ c, c.length = d.sz ∧ d.K w x c ∧ ∀ j u, c[j]? = some u → w.cell? (a.add (i * d.sz + j)) = some u) ∧ S x := by
      have aux : ∀ m, m ≤ len → ∃ xs : List α, xs.length = m ∧ ∀ i x, xs[i]? = some x → (∃ c, c.length = d.sz ∧ d.K w x c ∧ ∀ j u, c[j]? = some u → w.cell? (a.add (i * d.sz + j)) = some u) ∧ S x := by
        intro m
        induction m with
        | zero => exact fun _ => ⟨[], rfl, fun i x h => by simp at h⟩
        | succ m ih =>
          intro hm
          obtain ⟨xs, hl, hx⟩ := ih (by omega)
          obtain ⟨x, hx1⟩ := each m (by omega)
          refine ⟨xs ++ [x], by simp [hl], fun i z hz => ?_⟩
          by_cases hi : i < xs.length
          · rw [List.getElem?_append_left hi] at hz
            exact hx i z hz
          · rw [List.getElem?_append_right (by omega)] at hz
            have h0 : i - xs.length = 0 := by have := (List.getElem?_eq_some_iff.1 hz).1; simp at this; omega
            rw [h0] at hz
            obtain rfl : x = z := by simpa using hz
            obtain rfl : i = m := by omega
            exact hx1
      exact aux len (Nat.le_refl _)
    refine ⟨xs, ⟨some a, cap, by rw [hxl], by omega, rfl, by rw [hxl]; unfold maxLen at hm; omega, fun _ => ⟨a, rfl, fun j p hj => (hxs j p hj).1⟩⟩, ?_, fun x hx => ?_⟩
    · have : xs.length * P.bytesOf e ≤ ((elems.map (·.1)).length + (rest.map (·.1)).length) * P.bytesOf e := Nat.mul_le_mul_right _ (by simp; omega)
      exact Nat.le_trans this hz0
    · obtain ⟨i, hi⟩ := List.getElem?_of_mem hx
      exact (hxs i x hi).2
theorem opens_arg {α : Type} {P : Program} {d : Kd α} {t e : TypeId} {S : List α → Prop} {H : Type} {enc : TypeId × Value → H} {W : World} {base : Nat} {sp : Nat → Bool} {held : Bool} {a : Option Addr} {len cap : Nat} {dat : DataW H} {ps : List MemPlace} {ts : List TypeId} {ds : List (DataW H)} {j : Nat}
    (ho : Opens P (Kd.slice e d) t S) (hsz : (DataW.weightsEach P ts ds).all (· ≤ reachBytes) = true) (ht : ts[j]? = some t) (hd : ds[j]? = some dat) (h : DataW.Trod enc P W base sp held t (.slice a len cap) dat ps) :
    ∃ xs : List α, len = xs.length ∧ xs.length ≤ cap ∧ d.C W a xs.length xs ∧ S xs := by
  obtain ⟨fuel, hf⟩ := h
  obtain ⟨xs, ⟨A, c, hcs, hl, hC⟩, hS⟩ := ho H enc W base sp held fuel _ _ hf (fun n hn => by
    have := List.all_eq_true.1 hsz n (DataW.weights_mem_each ht hd n hn)
    simpa using this)
  have e1 : (Value.slice a len cap) = .slice A xs.length c := by simpa [Value.cells] using hcs
  injection e1 with e1 e2 e3
  subst e1 e2 e3
  exact ⟨xs, rfl, hl, hC, hS⟩
end Go.Proofs.YtldaingkcnmaoaaDoor.M
set_option linter.unusedVariables false
set_option linter.unusedSimpArgs false
namespace Go.Proofs.YtldaingkcnmaoaaDoor.M
open Go.RowKit Go.Proofs.YtldaingkcnmaoaaDoorW.PrintWords Go.Proofs.YtldaingkcnmaoaaDoor.X Go.ChangeShapes
theorem opens_seed : Opens Tryd.prog k23 23 (fun _ => True) := by
  intro H enc w base sp held fuel cs y h hz
  obtain ⟨xs, n, _, _, hl, hlen, hfs⟩ := DataW.trod_struct Tryd.underlying23 h
  have hsz : cs.length = 7 := by rw [hl]; kernel_rfl
  have ci : Tryd.prog.cellsOf 3 = 1 := by kernel_rfl
  have cb : Tryd.prog.cellsOf 4 = 1 := by kernel_rfl
  match xs, hlen with
  | [y0, y1, y2, y3, y4, y5, y6], _ =>
    have e0 := hfs 0 _ rfl
    have e1 := hfs 1 _ rfl
    have e2 := hfs 2 _ rfl
    have e3 := hfs 3 _ rfl
    have e4 := hfs 4 _ rfl
    have e5 := hfs 5 _ rfl
    have e6 := hfs 6 _ rfl
    simp only [List.getElem?_cons_zero, List.getElem?_cons_succ, ci, cb] at e0 e1 e2 e3 e4 e5 e6
    obtain ⟨a0, h0, _⟩ := DataW.trod_int Tryd.underlying3 e0
    obtain ⟨a1, h1, _⟩ := DataW.trod_int Tryd.underlying3 e1
    obtain ⟨a2, h2, _⟩ := DataW.trod_int Tryd.underlying3 e2
    obtain ⟨a3, h3, _⟩ := DataW.trod_int Tryd.underlying3 e3
    obtain ⟨a4, h4, _⟩ := DataW.trod_int Tryd.underlying3 e4
    obtain ⟨a5, h5, _⟩ := DataW.trod_bool Tryd.underlying4 e5
    obtain ⟨a6, h6, _⟩ := DataW.trod_int Tryd.underlying3 e6
    refine ⟨⟨a0, a1, a2, a3, a4, a5, a6⟩, ?_, trivial⟩
    match cs, hsz with
    | [x0, x1, x2, x3, x4, x5, x6], _ =>
      simp [ci, cb] at h0 h1 h2 h3 h4 h5 h6
      rw [h0, h1, h2, h3, h4, h5, h6]
      exact k23_mk w ⟨a0, a1, a2, a3, a4, a5, a6⟩
end Go.Proofs.YtldaingkcnmaoaaDoor.M
