/- The plain law of CompleteMarks: both sides give each cell the colour of the last mark in its orbit. -/
import Derived.Test.YtfccacobkcglcaaGreatQdMS
import Derived.Test.YtfccacobkcglcaaGreatQdPTwoColourPattern
namespace Go.Proofs.YtfccacobkcglcaaGreat.X
open Go
set_option linter.unusedSimpArgs false
set_option linter.unusedVariables false
/-- a cell's colour: that of the last mark in its orbit -/
def lastS (l : Lt) (ns : List Int) (ms : List Ma) (rest k : Int) : Int := ms.foldl (fun c x => bif nmS l ns x == k then x.2 else c) rest
def compS (l : Lt) (g : List Mo) (ms : List Ma) (rest : Int) : List Int := (numsF l g).map (lastS l (numsF l g) ms rest)
def icompS (l : Lt) (g : List Mo) (ms : List Ma) (s : List Int) : List Int := ms.foldl (fun s x => setAll l x.2 (orbS l g (redS l x.1)) s) s
def resCM (f : Int) (l : Lt) (g : List Mo) (ms : List Ma) (rest : Int) : Pt × Int := bif codeC f l g (marksB ms) != 0 then (dP, codeC f l g (marksB ms)) else bif okC rest then (bif (cfO l (numsF l g) ms 0 ms).2.2 then (dP, 5) else ((f, l, compS l g ms rest), 0)) else (dP, 2)
end Go.Proofs.YtfccacobkcglcaaGreat.X
