/- Contracts of functions. -/
import Derived.Test.YtfecojefbnnknaaTxx10
namespace Go.Sep
set_option maxHeartbeats 16000000
open Go.Proofs
set_option linter.unusedSimpArgs false
set_option linter.unusedVariables false
set_option maxRecDepth 100000
def qEy (p:wT) (m:qO) (s:qS) (n:Int):Bool :=
 qT n 0 (p.caps.length-1)&&decide (n<s.chs.length) &&
  (qCt m.mem.cells p.caps n||((qAu m.mem.cells p.caps n).2&&decide ((qAu m.mem.cells p.caps n).1.cap=(s.chs.getD n.toNat default).cap)&&decide ((qAu m.mem.cells p.caps n).1.list=(s.chs.getD n.toNat default).list)&&decide ((qAu m.mem.cells p.caps n).1.closed=(s.chs.getD n.toNat default).closed)))
def same (p:wT) (m:qO) (s:qS):Bool :=
 jF p&&cL m&&qY p s&&decide (m.cores.length=s.ths.length)&&decide (m.tr=s.tr) &&
  (List.range m.cores.length).all (fun i=>nS p m s i)&&(List.range p.caps.length).all (fun n=>qEy p m s n)
end Go.Sep
