/-
  Registers, as numbers and lists.
-/
import Derived.Test.YtlikhbhkodlaoaaLst
namespace Go.Ink
abbrev Reg := Int × List (List Int)
abbrev Slot := Bool × Reg
/-- How many lines, and runes in them. -/
def sizeM (l : List (List Int)) : Nat := l.length + (l.map List.length).sum
/-- Where a name's register stands. -/
def placeM (n : Int) : Int :=
  if n = 0 ∨ n = 34 then 0 else if n = 45 then 1 else if 48 ≤ n ∧ n ≤ 57 then 2 + (n - 48) else if 97 ≤ n ∧ n ≤ 122 then 12 + (n - 97) else if 65 ≤ n ∧ n ≤ 90 then 12 + (n - 65) else -1
/-- What is held, and behind it r. -/
def moreM (x : Slot) (r : Reg) : Reg :=
  if x.1 = false then r
  else if x.2.1 ≠ 0 ∨ r.1 ≠ 0 then (1, x.2.2 ++ r.2)
  else (0, x.2.2.dropLast ++ [x.2.2.getLastD [] ++ r.2.headD []] ++ r.2.tail)
/-- A register without a line has an empty one. -/
def filledM (r : Reg) : Reg := if r.2 = [] then (r.1, [[]]) else r
def emptySet : List Slot := List.replicate 38 (false, (0, []))
def slotAt (m : List Slot) (i : Nat) : Slot := m.getD i (false, (0, []))
/-- Slot k holds what slot k - 1 holds, where that holds something: from 11 down to 4. -/
def shiftStep (m : List Slot) (k : Nat) : List Slot := if (slotAt m (k - 1)).1 = true then m.set k (true, (slotAt m (k - 1)).2) else m
def shiftFrom : Nat → List Slot → List Slot
  | 0, m => m
  | n + 1, m => shiftFrom n (shiftStep m (n + 4))
def shiftM (m : List Slot) (r : Reg) : List Slot × Nat := if r.1 ≠ 1 ∧ r.2.length = 1 then (m, 1) else (shiftFrom 8 m, 3)
def finM (m : List Slot) (i : Nat) (name : Int) (r : Reg) : List Slot × Int :=
  let r' := if 65 ≤ name ∧ name ≤ 90 then moreM (slotAt m i) r else r
  if (65 ≤ name ∧ name ≤ 90) ∧ 65536 < sizeM r'.2 then (m, 3) else ((m.set i (true, r')).set 0 (true, r'), 0)
def midM (m : List Slot) (name : Int) (r : Reg) (del : Bool) : List Slot × Nat :=
  if placeM name = 0 then (if del = true then shiftM m r else (m, 2)) else (m, (placeM name).toNat)
def putM (m : List Slot) (name : Int) (r : Reg) (del : Bool) : List Slot × Int :=
  if (name ≠ 95 ∧ placeM name ≠ 0 ∧ placeM name < 12) ∨ r.1 < 0 ∨ 2 < r.1 ∨ 65536 < sizeM r.2 then (m, 1)
  else if name = 95 then (m, 0)
  else finM (midM m name (filledM r) del).1 (midM m name (filledM r) del).2 name (filledM r)
def getM (m : List Slot) (name : Int) : Reg × Int :=
  if placeM name < 0 ∧ name ≠ 95 then ((0, []), 1)
  else if placeM name < 0 ∨ (slotAt m (placeM name).toNat).1 = false then ((0, []), 26)
  else ((slotAt m (placeM name).toNat).2, 0)
end Go.Ink
