/-
Specs as abstract values; which are light.
Conditions: none; no program is in sight.
-/
import Derived.Test.YtnjlecejhnoicaaDoorSpecLem2
set_option linter.unusedVariables false
set_option linter.unusedSimpArgs false
namespace Go.AL
open Go.RowKit Go.NumSpec
def ctrsV (l : List Ctr) : List AV := l.map ctrAV
def lightC (c : Ctr) : Bool := decide (c.name.length ≤ 100 ∧ c.image.length ≤ 100 ∧ c.ports.length ≤ 10)
theorem intsV_len (l : List Int) : (intsV l).length = l.length := by simp [intsV]
structure Spc where
  name : List UInt8
  labels : List Lab
  init : List Ctr
  main : List Ctr
  restart : Int
  grace : Int
  prio : Int
def spcL (s : Spc) : List AV := [.S s.name, .sl (labsV s.labels), .sl (ctrsV s.init), .sl (ctrsV s.main), .int .i64 s.restart, .int .i64 s.grace, .int .i64 s.prio]
def spcAV (s : Spc) : AV := .agg (spcL s)
def lightL (p : Lab) : Bool := decide (p.1.length ≤ 100 ∧ p.2.length ≤ 100)
def lightS (s : Spc) : Bool := decide (s.name.length ≤ 100 ∧ s.labels.length ≤ 10 ∧ s.init.length ≤ 8 ∧ s.main.length ≤ 8) && s.labels.all lightL && (s.init.all lightC && s.main.all lightC)
end Go.AL
namespace Go.AL
open Go.RowKit Go.NumSpec
def seenSt (ST IT : Nat) (b : Nat) (p q : Own) (ns : List (List UInt8)) (ps : List Int) : St := (b, .cells [ownAV p 1 (strsV ns), ownAV q 1 (intsV ps)]) :: (ownSt p ST 1 (strsV ns) ++ ownSt q IT 1 (intsV ps))
def ctrE (ns : List (List UInt8)) (ps : List Int) (c : Ctr) (ports every : Int) : Er := firstE [nameE ns c.name, erNew (saysV (tparts c.image).2.2 33) [[105, 109, 97, 103, 101]], reqE c.req, limE c.lim c.req, portE ps c.ports ports, probeE c.probe every]
end Go.AL
