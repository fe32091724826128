/- TableNames: other names in patterns make no other shape; another method, or handler, may stand beside, or not. No condition. -/
import Derived.Test.YtidkhbkndbnnjaaDoorXRouteF
import Derived.Test.YtidkhbkndbnnjaaDoorX17
set_option linter.unusedVariables false
set_option linter.unusedSimpArgs false
namespace Go.Proofs.YtidkhbkndbnnjaaDoor.Pure
open Go.RowKit Go.Proofs.YtidkhbkndbnnjaaDoor.X Go.Proofs.YtidkhbkndbnnjaaDoorW.PrintWords Go.Proofs.YtidkhbkndbnnjaaDoorW.PrintLast Go.Proofs.YtidkhbkndbnnjaaDoor.M

theorem mark_fin47 : ∀ n : Fin 256, markN n.val = true → n.val ≠ 47 := by decide +kernel
theorem token_no47 {w : List UInt8} (h : tokenL w = true) : ∀ c ∈ w, c.toNat ≠ 47 := by
  unfold tokenL at h
  simp only [Bool.and_eq_true, List.all_eq_true] at h
  exact fun c hc => mark_fin47 ⟨c.toNat, c.toNat_lt⟩ (h.1 c hc)
theorem names_words (c : UInt8) (hc : c.toNat ≠ 47) (a : List UInt8) (h : tokenL a = true) : wordsL 47 ([112, 47, c] ++ a) = [[112], c :: a] := by
  have h1 := wordsGo_app 47 [112] (c :: a) [] (by decide)
  rw [show ((47 : UInt8).toNat : Int) = 47 from rfl] at h1
  have h2 := wordsGo_nosep 47 (c :: a) [] (fun x hx => by
    rcases List.mem_cons.1 hx with rfl | hx
    · omega
    · have := token_no47 h x hx; omega)
  show wordsGo 47 [] ([112] ++ 47 :: (c :: a)) = _
  rw [h1, h2]; rfl
theorem names_pat (c : UInt8) (hc : c.toNat = 58 ∨ c.toNat = 42) (a : List UInt8) (h : tokenL a = true) : patL ([47, 112, 47, c] ++ a) = ([[112], c :: a], true) := by
  have hw := names_words c (by omega) a h
  have e : ([47, 112, 47, c] ++ a : List UInt8) = 47 :: ([112, 47, c] ++ a) := rfl
  rw [e, patL_cons 47 _ rfl, hw, if_neg (by simp)]
  have hk : kindL (c :: a) = 1 ∨ kindL (c :: a) = 2 := by
    rcases hc with hc | hc
    · exact .inl (by simp [kindL, hc])
    · exact .inr (by simp [kindL, hc])
  have hk0 : ¬ kindL (c :: a) = 0 := by omega
  have hg : patGo [] [[112], c :: a] = true := by
    rw [patGo_cons, if_pos (by decide), patGo_cons, if_neg hk0, if_neg (by simp)]
    simp [h, patGo, show (tokenL [112] && no37 [112]) = true by decide]
  rw [if_pos hg]; rfl
def rX (a : List UInt8) : R3 := ⟨[71, 69, 84], [47, 112, 47, 58] ++ a, [103, 101, 116]⟩
def rY (m b : List UInt8) : R3 := ⟨m, [47, 112, 47, 58] ++ b, [112, 117, 116]⟩
def rZ (b : List UInt8) : R3 := ⟨[71, 69, 84], [47, 112, 47, 42] ++ b, [112, 117, 116]⟩
theorem right_any (m h : List UInt8) (hm : tokenL m = true) (hh : handL h = true) (c : UInt8) (hc : c.toNat = 58 ∨ c.toNat = 42) (a : List UInt8) (ha : tokenL a = true) : rightL ⟨m, [47, 112, 47, c] ++ a, h⟩ = true := by
  show ((patL ([47, 112, 47, c] ++ a)).2 && (tokenL m && handL h)) = true
  rw [names_pat c hc a ha, hm, hh]; rfl
theorem key_any (m h : List UInt8) (c : UInt8) (hc : c.toNat = 58 ∨ c.toNat = 42) (a : List UInt8) (ha : tokenL a = true) : keyL ⟨m, [47, 112, 47, c] ++ a, h⟩ = (m, [47, 112, 47, c]) := by
  show (m, shapeL (patL ([47, 112, 47, c] ++ a)).1) = _
  rw [names_pat c hc a ha]
  congr 1
  have : c = 58 ∨ c = 42 := by
    rcases hc with hc | hc
    · exact .inl (u8_inj (by rw [hc]; rfl))
    · exact .inr (u8_inj (by rw [hc]; rfl))
  rcases this with rfl | rfl
  · simp [shapeL, segL, kindL]
  · simp [shapeL, segL, kindL]
theorem TableNames : crossroadlaw07_TableNames.Pure := by
  intro a0 a1 a2 s0 s1
  obtain ⟨a, rfl⟩ := exBA a0
  obtain ⟨b, rfl⟩ := exBA a1
  simp only [toBA_size] at s0 s1
  refine Ev.rounds (g := fun k => crossroadlaw07_TableNames.f k (toBA a) (toBA b) a2) ?_
  have hw : wrap64 ((a.length : Int) + (b.length : Int)) = (a.length : Int) + (b.length : Int) := w64 (by omega) (by omega)
  simp only [crossroadlaw07_TableNames.f, toBA_size, hw]
  refine Ev.bind fit_f ?_
  simp only [if_true]
  have out : Ev (fun k => crossroadlaw07_TableNames.j0 k (toBA a) (toBA b) a2 true) true := by
    refine Ev.step' ?_
    simp only [crossroadlaw07_TableNames.j0, if_true]
    exact Ev.now true
  by_cases h60 : (a.length : Int) + (b.length : Int) > 60
  · simp only [if_pos h60]; exact out
  · simp only [if_neg h60]
    refine Ev.bind (token_f a (by omega)) ?_
    cases ha : tokenL a with
    | false => simp only [Bool.false_eq_true, if_false]; exact out
    | true =>
      simp only [if_true]
      refine Ev.bind (token_f b (by omega)) ?_
      cases hb : tokenL b with
      | false => simp only [Bool.not_false]; exact out
      | true =>
        simp only [Bool.not_true]
        have p1 : (⟨#[47, 112, 47, 58]⟩ : ByteArray) = toBA [47, 112, 47, 58] := rfl
        have p2 : (⟨#[47, 112, 47, 42]⟩ : ByteArray) = toBA [47, 112, 47, 42] := rfl
        have g1 : (⟨#[71, 69, 84]⟩ : ByteArray) = toBA [71, 69, 84] := rfl
        have g2 : (⟨#[103, 101, 116]⟩ : ByteArray) = toBA [103, 101, 116] := rfl
        have g3 : (⟨#[112, 117, 116]⟩ : ByteArray) = toBA [112, 117, 116] := rfl
        have g4 : (⟨#[80, 85, 84]⟩ : ByteArray) = toBA [80, 85, 84] := rfl
        have tail (m : List UInt8) (hm : tokenL m = true) (hml : m.length ≤ 3) (want : Int) (hwant : (if m = [71, 69, 84] then (3 : Int) else 0) = want) :
            Ev (fun k => crossroadlaw07_TableNames.j2 k want (toBA [71, 69, 84]) (toBA ([47, 112, 47, 58] ++ a)) (toBA [103, 101, 116]) (toBA m) (toBA ([47, 112, 47, 58] ++ b)) (toBA [112, 117, 116]) (toBA [71, 69, 84]) (toBA ([47, 112, 47, 42] ++ b)) (toBA [112, 117, 116])) true := by
          have sx : Small (rX a) := ⟨by simp [rX], by simp [rX]; omega, by simp [rX]⟩
          have sy : Small (rY m b) := ⟨by simp [rY]; omega, by simp [rY]; omega, by simp [rY]⟩
          have sz : Small (rZ b) := ⟨by simp [rZ], by simp [rZ]; omega, by simp [rZ]⟩
          have rx : rightL (rX a) = true := right_any _ _ (by decide) (by decide) 58 (.inl rfl) a ha
          have ry : rightL (rY m b) = true := right_any _ _ hm (by decide) 58 (.inl rfl) b hb
          have rz : rightL (rZ b) = true := right_any _ _ (by decide) (by decide) 42 (.inr rfl) b hb
          have kx : keyL (rX a) = ([71, 69, 84], [47, 112, 47, 58]) := key_any _ _ 58 (.inl rfl) a ha
          have ky : keyL (rY m b) = (m, [47, 112, 47, 58]) := key_any _ _ 58 (.inl rfl) b hb
          have kz : keyL (rZ b) = ([71, 69, 84], [47, 112, 47, 42]) := key_any _ _ 42 (.inr rfl) b hb
          have c1 : checkL [rX a, rY m b] = want := by
            rw [checkL, if_pos (by simp [rx, ry]), if_neg (by simp), clashGo, if_neg (by simp), clashGo, kx, ky, ← hwant]
            by_cases e : m = [71, 69, 84]
            · subst e; simp
            · simp [e, clashGo]
          have c2 : checkL [rX a, rZ b] = 0 := by
            rw [checkL, if_pos (by simp [rx, rz]), if_neg (by simp), clashGo, if_neg (by simp), clashGo, kx, kz]
            simp [clashGo]
          have c3 : checkL [rX a] = 0 := by
            rw [checkL, if_pos (by simp [rx]), if_neg (by simp), clashGo, if_neg (by simp)]; rfl
          have c4 : checkL [] = 0 := rfl
          refine Ev.step' ?_
          simp only [crossroadlaw07_TableNames.j2]
          refine Ev.bind (check_f [rX a, rY m b] (by simp) (by intro r hr; simp at hr; rcases hr with rfl | rfl; exact sx; exact sy)) ?_
          rw [c1]
          simp only [if_true]
          refine Ev.bind (check_f [rX a, rZ b] (by simp) (by intro r hr; simp at hr; rcases hr with rfl | rfl; exact sx; exact sz)) ?_
          rw [c2]
          simp only [if_true]
          refine Ev.bind (check_f [rX a] (by simp) (by intro r hr; simp at hr; subst hr; exact sx)) ?_
          rw [c3]
          simp only [if_true]
          refine Ev.bind (check_f [] (by simp) (by simp)) ?_
          rw [c4]
          simp only [if_true]
          refine Ev.bind (right_f (rX a) sx) ?_
          rw [rx]
          exact Ev.now true
        refine Ev.step' ?_
        simp only [crossroadlaw07_TableNames.j0, Bool.false_eq_true, if_false, toBA_size, if_pos (show 4 + a.length ≤ 9223372036854775807 by omega), if_pos (show 4 + b.length ≤ 9223372036854775807 by omega), p1, p2, g1, g2, g3, g4, toBA_append]
        cases a2 with
        | true =>
          simp only [if_true]
          refine Ev.step' ?_
          simp only [crossroadlaw07_TableNames.j1, if_true]
          exact tail [80, 85, 84] (by decide) (by decide) 0 (by decide)
        | false =>
          simp only [Bool.false_eq_true, if_false]
          refine Ev.step' ?_
          simp only [crossroadlaw07_TableNames.j1, Bool.false_eq_true, if_false]
          exact tail [71, 69, 84] (by decide) (by decide) 3 (by decide)
end Go.Proofs.YtidkhbkndbnnjaaDoor.Pure
