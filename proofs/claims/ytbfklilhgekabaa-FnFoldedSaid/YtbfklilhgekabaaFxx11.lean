/- Contracts of functions. -/
import Derived.Test.YtbfklilhgekabaaFxx10
namespace Go.Sep
set_option maxHeartbeats 16000000
open Go.Proofs
set_option linter.unusedSimpArgs false
set_option linter.unusedVariables false
set_option maxRecDepth 100000
def qG2 (p:wV) (m:qR) (s:qV) (n:Int):Bool :=
 qO n 0 (p.caps.length-1)&&decide (n<s.chs.length) &&
  (qDs m.mem.cells p.caps n||((qBz m.mem.cells p.caps n).2&&decide ((qBz m.mem.cells p.caps n).1.cap=(s.chs.getD n.toNat default).cap)&&decide ((qBz m.mem.cells p.caps n).1.list=(s.chs.getD n.toNat default).list)&&decide ((qBz m.mem.cells p.caps n).1.closed=(s.chs.getD n.toNat default).closed)))
def same (p:wV) (m:qR) (s:qV):Bool :=
 yT p&&fG m&&wF p s&&decide (m.cores.length=s.ths.length)&&decide (m.tr=s.tr) &&
  (List.range m.cores.length).all (fun i=>pE p m s i)&&(List.range p.caps.length).all (fun n=>qG2 p m s n)
def qWv (p:wV) (o:List Int):qV×List Int:=bK p (yP p).1 o
theorem qLq (p:wV) :∀(l:List Int) (s:qV) (c:List Int),(l.foldl (bU p) (s,c)).2.length=c.length+l.length
 | [],s,c=>by simp
 | x::l,s,c=>by
  simp only [List.foldl_cons,bU]
  rw [qLq p l]
  simp
  omega
theorem qEm (p:wV) :∀(l:List Int) (s:qV) (c:List Int),wF p s=true→wF p (l.foldl (bU p) (s,c)).1=true
 | [],s,c,h=>h
 | x::l,s,c,h=>by
  simp only [List.foldl_cons,bU]
  exact qEm p l _ _ (eH x h)
theorem qOu {p:wV} {o:List Int} (h:yT p=true):wF p (qWv p o).1=true:=by
 unfold qWv bK
 split
 ·exact qEm p o _ _ (dC h)
 ·exact dC h
theorem qUp {p:wV} {o:List Int} (h:yT p=true) (hl:o.length≤4000):(qWv p o).2.length=o.length:=by
 unfold qWv bK
 rw [dC h,decide_eq_true (show (o.length:Int)≤4000 by omega)]
 show (o.foldl (bU p) ((yP p).1,[])).2.length=_
 rw [qLq]
 simp
end Go.Sep
