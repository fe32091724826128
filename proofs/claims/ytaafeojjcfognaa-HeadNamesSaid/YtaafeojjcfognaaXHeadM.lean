/- Heads, in plain lists: what head.Parse answers. No program in sight. -/
import Derived.Test.YtaafeojjcfognaaXTrim
import Derived.Test.YtaafeojjcfognaaXLowerFacts
import Derived.Test.YtaafeojjcfognaaX5
set_option linter.unusedVariables false
set_option linter.unusedSimpArgs false
namespace Go.Proofs.Ytaafeojjcfognaa.M
open Go.RowKit Go.Proofs.YtaafeojjcfognaaW.PrintWords Go.Proofs.Ytaafeojjcfognaa.X

def valueL (l : List UInt8) : Bool := l.all goodB
theorem value_f (l : List UInt8) : ascii_Value.f (toBA l) = some (valueL l) := by
  simp [ascii_Value.f, okFrom, valueL]
abbrev FldM := List UInt8 × List UInt8
def splitC : List UInt8 → Option (List UInt8 × List UInt8)
  | [] => none
  | c :: r => if c.toNat = 58 then some ([], r) else (splitC r).map fun p => (c :: p.1, p.2)
def fieldL (l : List UInt8) : FldM × Bool := match splitC l with
  | none => (([], []), false)
  | some (a, b) => ((lowerL a, trimL b), tokenL a && valueL (trimL b))
def fieldsL : List (List UInt8) → Option (List FldM)
  | [] => some []
  | l :: r => if (fieldL l).2 = true then (fieldsL r).map fun fs => (fieldL l).1 :: fs else none
def allL (name : List UInt8) (fs : List FldM) : List (List UInt8) := (fs.filter fun f => f.1 = name).map fun f => f.2
structure HeadR where
  m : List UInt8
  t : List UInt8
  fs : List FldM
  close : Bool
  len : Int
  st : Int
def badL (st : Int) : HeadR := ⟨[], [], [], false, 0, st⟩
def sHost : List UInt8 := [104, 111, 115, 116]
def sLen : List UInt8 := [99, 111, 110, 116, 101, 110, 116, 45, 108, 101, 110, 103, 116, 104]
def sCod : List UInt8 := [116, 114, 97, 110, 115, 102, 101, 114, 45, 101, 110, 99, 111, 100, 105, 110, 103]
def sCon : List UInt8 := [99, 111, 110, 110, 101, 99, 116, 105, 111, 110]
def sClose : List UInt8 := [99, 108, 111, 115, 101]
def sChunk : List UInt8 := [99, 104, 117, 110, 107, 101, 100]
def sVer : List UInt8 := [72, 84, 84, 80, 47, 49, 46, 49]
def isClose (w : List UInt8) : Bool := decide (lowerL (trimL w) = sClose)
def closeW (v : List UInt8) : Bool := (wordsL 44 v).any isClose
def closeL (fs : List FldM) : Bool := (allL sCon fs).any closeW
def badFrame (fs : List FldM) : Bool := decide ((allL sHost fs).length ≠ 1) || decide ((allL sLen fs).length > 1) || (decide ((allL sLen fs).length > 0) && decide ((allL sCod fs).length > 0))
def notDone (cs : List (List UInt8)) : Bool := match cs with
  | [] => false
  | [c] => decide (lowerL c ≠ sChunk)
  | _ => true
def pickG {α : Type} (bad g : Int → α) (ls cs : List (List UInt8)) : α :=
  if notDone cs = true then bad 501 else
  match cs, ls with
  | [_], _ => g (-1)
  | _, [v] => if (numL 10 v).2 = true then (if (numL 10 v).1 > 600 then bad 413 else g (numL 10 v).1) else bad 400
  | _, _ => g 0
theorem pickG_map {α β : Type} (f : α → β) (bad g : Int → α) (ls cs : List (List UInt8)) : f (pickG bad g ls cs) = pickG (fun i => f (bad i)) (fun i => f (g i)) ls cs := by
  unfold pickG
  by_cases h : notDone cs = true
  · rw [if_pos h, if_pos h]
  · rw [if_neg h, if_neg h]
    have e : ∀ v : List UInt8, f (if (numL 10 v).2 = true then (if (numL 10 v).1 > 600 then bad 413 else g (numL 10 v).1) else bad 400) = (if (numL 10 v).2 = true then (if (numL 10 v).1 > 600 then f (bad 413) else f (g (numL 10 v).1)) else f (bad 400)) := by
      intro v
      by_cases h1 : (numL 10 v).2 = true
      · rw [if_pos h1, if_pos h1]
        by_cases h2 : (numL 10 v).1 > 600
        · rw [if_pos h2, if_pos h2]
        · rw [if_neg h2, if_neg h2]
      · rw [if_neg h1, if_neg h1]
    rcases cs with _ | ⟨c, _ | ⟨c', cs⟩⟩ <;> rcases ls with _ | ⟨v, _ | ⟨v', ls⟩⟩ <;> first | rfl | exact e v
def frameL (m t : List UInt8) (fs : List FldM) : HeadR :=
  if badFrame fs = true then badL 400 else pickG badL (fun n => ⟨m, t, fs, closeL fs, n, 0⟩) (allL sLen fs) (allL sCod fs)
def slash1 : List UInt8 → Bool
  | [] => false
  | c :: _ => decide (c.toNat = 47)
def firstL (m t : List UInt8) : Bool := tokenL m && slash1 t && valueL t
def parseL : List (List UInt8) → HeadR
  | [] => badL 400
  | first :: rest =>
    if first.length > 200 ∨ rest.length > 16 then badL 431 else
    match wordsL 32 first with
    | [m, t, v] => if firstL m t = true then (if v = sVer then (match fieldsL rest with
        | none => badL 400
        | some fs => frameL m t fs) else badL 400) else badL 400
    | _ => badL 400
end Go.Proofs.Ytaafeojjcfognaa.M
