/- The values of the program's exported types, and how they lie in cells. -/
import Derived.Test.YtmapjpdgjefnoaaQOwn2
set_option linter.unusedVariables false
set_option linter.unusedSimpArgs false
namespace Go.Q

structure Pn where
  session : Int
  version : Int
deriving Inhabited
structure Pins where
  rows : List Pn
  kept : List Int
deriving Inhabited
structure Strt where
  read : Int
  version : Int
  p : Int
  from' : Int
  draws : Int
deriving Inhabited
structure Disk where
  seed : Int
  drawn : Int
  begun : List Strt
deriving Inhabited
structure Tape where
  numbers : List Int
  at' : Int
deriving Inhabited
structure Schm where
  kind : Int
  servers : Int
  degree : Int
  group : Int
deriving Inhabited

abbrev cPn (x : Pn) : List D := [dInt .i64 x.session, dInt .i64 x.version]
abbrev cPins (x : Pins) : List D := [dSl 2 cPn x.rows, dInts x.kept]
abbrev cStrt (x : Strt) : List D := [dInt .i64 x.read, dInt .i64 x.version, dInt .i64 x.p, dInt .i64 x.from', dInt .i64 x.draws]
abbrev cDisk (x : Disk) : List D := [dInt .i64 x.seed, dInt .i64 x.drawn, dSl 5 cStrt x.begun]
abbrev cTape (x : Tape) : List D := [dInts x.numbers, dInt .i64 x.at']
abbrev cSchm (x : Schm) : List D := [dInt .i64 x.kind, dInt .i64 x.servers, dInt .i64 x.degree, dInt .i64 x.group]

abbrev dPn (x : Pn) : D := dAgg (cPn x)
abbrev dPins (x : Pins) : D := dAgg (cPins x)
abbrev dStrt (x : Strt) : D := dAgg (cStrt x)
abbrev dDisk (x : Disk) : D := dAgg (cDisk x)
abbrev dTape (x : Tape) : D := dAgg (cTape x)
abbrev dSchm (x : Schm) : D := dAgg (cSchm x)

theorem Pn.ext' {a b : Pn} (h1 : a.session = b.session) (h2 : a.version = b.version) : a = b := by cases a; cases b; simp_all
theorem Strt.ext' {a b : Strt} (h1 : a.read = b.read) (h2 : a.version = b.version) (h3 : a.p = b.p) (h4 : a.from' = b.from') (h5 : a.draws = b.draws) : a = b := by cases a; cases b; simp_all

example (x : Pn) : OneAll (cPn x) := inferInstance
example (x : Strt) : OneAll (cStrt x) := inferInstance

end Go.Q
