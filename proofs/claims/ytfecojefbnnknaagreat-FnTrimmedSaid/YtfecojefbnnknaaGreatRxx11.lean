/- Contracts of functions. -/
import Derived.Test.YtfecojefbnnknaaGreatRxx10
namespace Go.Sep
set_option maxHeartbeats 16000000
open Go.Proofs
set_option linter.unusedSimpArgs false
set_option linter.unusedVariables false
set_option maxRecDepth 100000
def qGg (p:wQ) (m:qT) (s:wA) (n:Int):Bool :=
 qW n 0 (p.caps.length-1)&&decide (n<s.chs.length) &&
  (qEa m.mem.cells p.caps n||((qC8 m.mem.cells p.caps n).2&&decide ((qC8 m.mem.cells p.caps n).1.cap=(s.chs.getD n.toNat default).cap)&&decide ((qC8 m.mem.cells p.caps n).1.list=(s.chs.getD n.toNat default).list)&&decide ((qC8 m.mem.cells p.caps n).1.closed=(s.chs.getD n.toNat default).closed)))
def same (p:wQ) (m:qT) (s:wA):Bool :=
 yR p&&fD m&&wG p s&&decide (m.cores.length=s.ths.length)&&decide (m.tr=s.tr) &&
  (List.range m.cores.length).all (fun i=>pD p m s i)&&(List.range p.caps.length).all (fun n=>qGg p m s n)
end Go.Sep
