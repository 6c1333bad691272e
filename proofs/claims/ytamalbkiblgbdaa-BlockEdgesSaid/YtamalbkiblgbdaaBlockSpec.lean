/- Package block, in plain Lean. No program in sight. -/
import Derived.RowKit
namespace Go.Proofs.Ytamalbkiblgbdaa

/-- A number from 0 to another one. -/
def Bk.clip (n m : Int) : Int := min (max n 0) m
theorem Bk.clip_in (n m : Int) (h : 0 ≤ m) : 0 ≤ Bk.clip n m ∧ Bk.clip n m ≤ m := by unfold Bk.clip; omega
/-- A block's state. -/
structure Bk where
  k : Int
  q : Bool
  l : Bool
  o : Bool
  cv : Int
/-- As the program's value. -/
def Bk.v (b : Bk) : Value := .agg #[.int .i64 b.k, .bool b.q, .bool b.l, .bool b.o, .int .i64 b.cv]
/-- The steps, kind by kind, of a time p and ticks d that are clipped already. -/
def Bk.ton (b : Bk) (i : Bool) (p d : Int) : Bk :=
  if i then (if b.o then { b with cv := min (b.cv + d) p, q := decide (p ≤ min (b.cv + d) p), l := true } else { b with o := true, cv := 0, q := decide (p ≤ 0), l := true })
  else { b with o := false, cv := 0, q := false, l := false }
def Bk.tof (b : Bk) (i : Bool) (p d : Int) : Bk :=
  if i then { b with cv := 0, q := true, l := true }
  else if b.q then { b with cv := min (b.cv + d) p, q := decide (min (b.cv + d) p < p), l := false } else { b with l := false }
def Bk.tp (b : Bk) (i : Bool) (p d : Int) : Bk :=
  if b.o then { b with cv := min (b.cv + d) p, o := decide (min (b.cv + d) p < p), q := decide (min (b.cv + d) p < p), l := i }
  else if i && !b.l then { b with cv := 0, o := decide (0 < p), q := decide (0 < p), l := i }
  else { b with o := false, q := false, l := i }
def Bk.ctu (b : Bk) (i : Bool) (p : Int) : Bk :=
  if i && !b.l then { b with cv := min (b.cv + 1) 32767, q := decide (p ≤ min (b.cv + 1) 32767), l := i } else { b with q := decide (p ≤ b.cv), l := i }
def Bk.ctd (b : Bk) (i : Bool) (p : Int) : Bk :=
  let c := if b.o then b.cv else p
  let c := if i && !b.l then max (c - 1) 0 else c
  { b with o := true, cv := c, q := c == 0, l := i }
def Bk.rt (b : Bk) (i : Bool) : Bk := { b with q := i && !b.l, l := i }
def Bk.ft (b : Bk) (i : Bool) : Bk := { b with q := !i && b.l, l := i }
end Go.Proofs.Ytamalbkiblgbdaa
