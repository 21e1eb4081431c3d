/- Contracts of functions. -/
import Derived.Test.YtfecojefbnnknaaLxx10
namespace Go.Sep
set_option maxHeartbeats 16000000
open Go.Proofs
set_option linter.unusedSimpArgs false
set_option linter.unusedVariables false
set_option maxRecDepth 100000
def qFa (p:wU) (m:qR) (s:qS) (n:Int):Bool :=
 qV n 0 (p.caps.length-1)&&decide (n<s.chs.length) &&
  (qD6 m.mem.cells p.caps n||((qB4 m.mem.cells p.caps n).2&&decide ((qB4 m.mem.cells p.caps n).1.cap=(s.chs.getD n.toNat default).cap)&&decide ((qB4 m.mem.cells p.caps n).1.list=(s.chs.getD n.toNat default).list)&&decide ((qB4 m.mem.cells p.caps n).1.closed=(s.chs.getD n.toNat default).closed)))
def same (p:wU) (m:qR) (s:qS):Bool :=
 vC p&&cM m&&qY p s&&decide (m.cores.length=s.ths.length)&&decide (m.tr=s.tr) &&
  (List.range m.cores.length).all (fun i=>nM p m s i)&&(List.range p.caps.length).all (fun n=>qFa p m s n)
end Go.Sep
