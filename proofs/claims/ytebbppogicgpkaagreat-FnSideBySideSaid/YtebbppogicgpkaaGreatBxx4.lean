/- Contracts of functions. -/
import Derived.Test.YtebbppogicgpkaaGreatBxx3
namespace Go.Sep
set_option maxHeartbeats 16000000
open Go.Proofs
set_option linter.unusedSimpArgs false
set_option linter.unusedVariables false
set_option maxRecDepth 100000
def gU (op a b:Int):Int:=if op=2 then IntKind.i64.wrap (a+b) else if op=3 then IntKind.i64.wrap (a-b) else vI (decide (a<b))
def reg (t:jJ) (r:Int):Int:=t.regs.getD r.toNat 0
def yB (t:jJ) (r v:Int):jJ:=⟨t.at_,t.regs.set r.toNat v,t.st⟩
def wV (t:jJ) (c:bH) (x:Ins):jJ×bH×Bool :=
 if x.op=5∨x.op=7 then
  (if x.op=7∧¬(yF c (reg t x.a)).2=2 then yB t x.r (vI (decide ((yF c (reg t x.a)).2=0))) else t,(yF c (reg t x.a)).1,!decide ((yF c (reg t x.a)).2=2))
 else if x.op=6∨x.op=8 then
  (if (wI c).2.2=3∧x.op=8 then yB (yB (yB t x.r (wI c).2.1) x.b (vI (decide ((wI c).2.2=0)))) x.b 2 else yB (yB t x.r (wI c).2.1) x.b (vI (decide ((wI c).2.2=0))),(wI c).1,!decide ((wI c).2.2=2))
 else (t,(vQ c).1,!decide ((vQ c).2=2))
theorem wJ {α:Type} (l:List α) (i:Nat) (x d:α) (h:i<l.length):(l.set i x).getD i d=x:=by simp [List.getD_eq_getElem?_getD,h]
theorem wS {α:Type} (l:List α) (i:Nat) (d:α) (h:i<l.length):l.set i (l.getD i d)=l:=by
 rw [List.getD_eq_getElem?_getD,List.getElem?_eq_getElem h,Option.getD_some,List.set_getElem_self]
def aB (p:wR) (s:wC) (i:Nat) (t:jJ) (ok:Bool) (uT:Int):wC :=
 if ok=false∨((p.bods.getD i []).length:Int)≤uT then ⟨s.ths.set i ⟨t.at_,t.regs,2⟩,s.chs,s.tr⟩ else ⟨s.ths.set i ⟨uT,t.regs,t.st⟩,s.chs,s.tr⟩
def yA (p:wR) (s:wC) (i:Nat):wC :=
 if (ins p s i).op=1 then aB p s i (yB (s.ths.getD i default) (ins p s i).r (ins p s i).n) true ((s.ths.getD i default).at_+1)
 else if (ins p s i).op=2∨(ins p s i).op=3∨(ins p s i).op=4 then
  aB p s i (yB (s.ths.getD i default) (ins p s i).r (gU (ins p s i).op (reg (s.ths.getD i default) (ins p s i).a) (reg (s.ths.getD i default) (ins p s i).b))) true ((s.ths.getD i default).at_+1)
 else if (ins p s i).op=10 then aB p ⟨s.ths,s.chs,s.tr++[⟨i,reg (s.ths.getD i default) (ins p s i).a⟩]⟩ i (s.ths.getD i default) true ((s.ths.getD i default).at_+1)
 else if (ins p s i).op=11 then aB p s i (s.ths.getD i default) true (ins p s i).n
 else if (ins p s i).op=12 then aB p s i (s.ths.getD i default) true (if reg (s.ths.getD i default) (ins p s i).a=0 then (ins p s i).n else (s.ths.getD i default).at_+1)
 else if (ins p s i).op=13 then ⟨s.ths.set i ⟨(s.ths.getD i default).at_,(s.ths.getD i default).regs,1⟩,s.chs,s.tr⟩
 else aB p ⟨s.ths,s.chs.set (ins p s i).n.toNat (wV (s.ths.getD i default) (s.chs.getD (ins p s i).n.toNat default) (ins p s i)).2.1,s.tr⟩ i
  (wV (s.ths.getD i default) (s.chs.getD (ins p s i).n.toNat default) (ins p s i)).1 (wV (s.ths.getD i default) (s.chs.getD (ins p s i).n.toNat default) (ins p s i)).2.2 ((s.ths.getD i default).at_+1)
def wZ (p:wR) (s:wC) (who:Int):wC×Int:=if jI p s who=0 then (yA p s who.toNat,0) else (s,jI p s who)
theorem qRh {p:wR} {s:wC} {who:Int} (h:jI p s who=0):0≤who∧who.toNat<s.ths.length:=by
 unfold jI at h
 split at h
 ·simp at h
 ·rename_i hw
  simp only [Bool.not_eq_false,qK] at hw
  omega
end Go.Sep
