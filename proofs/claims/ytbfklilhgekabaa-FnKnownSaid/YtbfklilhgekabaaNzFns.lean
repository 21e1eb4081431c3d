/- The numbers of the program's functions. -/
import Derived.Test.YtbfklilhgekabaaNzRead
import Derived.Test.YtbfklilhgekabaaProg
namespace Go.Sep
set_option maxHeartbeats 16000000
open Go.Proofs
set_option maxRecDepth 100000
def qWp:List Nat:=[0,0,1,2,0,0,0,0,0,0,0,0,0,0,0,0,0,0,0,6,0,0,0,30,9,29,0,0,0,0,0,0,0,0,0,0,71,33,53,39,51,73,0,38,91,0,0,0,28,37,36,0,0,0,0,32,52,76,75,56,55,74,62,0,57,0,0,42,63,70,72,68,69,0,0,0,0,64,84,87,88,89,46,0,0,85,0,0,77,0,0,83,81,0,0,0,90,54,94,113,114,115,116,117,118,119,120,121,122,123,124,125,126,127,128,0,0,0,0,0,0,0,0,0,0,0,0,0,0,0,0,0,0,0,0,0,0,0,0,0,0,0,0,16,10,0,0,0,0,0,0,0,0,0,0,0,0,3,7,8,11,0,0,0,0,0,0,0,12,0,0,0,0,0,0,0,0,0,0,0,0,0,0,0,0,0,0,0,0,27,17,0,0,0,0,0,0,0,0,0,34,35,0,0,0,0,0,0,0,0,0,0,0,40,0,0,44,78,0,79,80,0,0,0,0,0,0,0,0,0,0,0,0,0,0,0,0,0,61,25,24,0,0,0,0,0,0,65,60,66,67,0,0,0,0,0,0,0,0,0,0,0,0,0,0,0,0,0,0,0,0,0,93,92,0,0,0,0,0,0,0,0,0,0,0,0,0,0,0,15,22,14,21,0,0,86,0,0,0,0,0,0,0,0,0,0,0,0,0,0,0,0,95,96,97,98,99,100,101,102,103,0,0,0,0,47,48,49,58,59,43,45,0,106,107,108,109,110,111,104,105,0,0,0,82,112,0,0,0,0,0,0,0,0,0,0,0,0,0,0,0,0,0,0,0,0,0,0,0,0,0,0,0,0,0,0,0,0,0,0,0,0,0,0,0,0,0,0,0,0,0,0,0,0,0,0,0,0,0,0,0,0,0,0,0,0,0,0,0,0,0,0,0,0,0,0,0,0,0,0,0,0,0,0,0,0,0,0,0,0,0,0,0,0,0,0,0,0,0,0,0,0,0,0,0,0,0,0,0,0,0,0,0,0,0,0,0,0,0,0,0,0,0,0,0,0,0,0,0,0,0,0,0,0,0,4,13,5,18,19,20,23,26,31,41,50]
def num (n:Nat):Nat:=qWp.getD n 0
theorem EN (m:MFn) {f:Nat} {fn:Go.Func} {args:List AV} {res:AV} (hf:Try.prog.funcs[num f]?=some fn)
  (hv:vc Try.prog num (Fin m.results [] res) [.code m.body] (.mk (iC 0 args) (vU []) 10)) (hc:lP Try.prog num fn.ntmps m.body ((fn.body).getD .skip)=true:=by kernel_rfl) (hn:Nat.ble args.length fn.ntmps=true:=by kernel_rfl) (hnm:(fn.name == "runtime.NumGoroutine")=false:=by kernel_rfl) (hbd:fn.body=some ((fn.body).getD .skip):=by rfl)
  (hr:aL Try.prog fn.results.toList m.results=true:=by rfl) (hb:yQ (· < 10) args:=by simp [yQ,bnd,zL,qIj,qCf,qSa,jB]):wJ Try.prog num f args [] res :=
 enter hf hnm hbd hc hr (Nat.le_of_ble_eq_true hn) hb (fun _ _ h=>by simp [vU,qO] at h) hv
theorem EH (m:MFn) {f:Nat} {fn:Go.Func} {args:List AV} {fp:FP} {res:AV} (hf:Try.prog.funcs[num f]?=some fn)
  (hv:vc Try.prog num (Fin m.results fp res) [.code m.body] (.mk (iC 0 args) (vU fp) 10)) (hc:lP Try.prog num fn.ntmps m.body ((fn.body).getD .skip)=true:=by kernel_rfl) (hn:Nat.ble args.length fn.ntmps=true:=by kernel_rfl) (hnm:(fn.name == "runtime.NumGoroutine")=false:=by kernel_rfl) (hbd:fn.body=some ((fn.body).getD .skip):=by rfl)
  (hr:aL Try.prog fn.results.toList m.results=true:=by rfl) (hb:yQ (· < 10) args:=by simp [yQ,bnd,zL,qIj,qCf,qSa,jB])
  (hh:HB (vU fp) 10:=by first | (simp [vU,dT,bV,jB]; done) | exact bV _ _ _ _ ((dT _).2 trivial) (by decide) (by simp [jB,yL,yQ,bnd])):wJ Try.prog num f args fp res :=
 enter hf hnm hbd hc hr (Nat.le_of_ble_eq_true hn) hb hh hv
theorem fz {rs:List qC9} {fp:FP} {v:AV} {s:AS} (h:jD rs fp v s):Fin rs fp v s:=⟨_,Sub.refl _,h⟩
def xa (d f n:Nat):yB:=⟨some d,.fad f (.t n),none⟩
def xl (d n:Nat):yB:=⟨some d,.load 1 false (.t n),none⟩
def xm (d n k:Nat):yB:=⟨some d,.load n true (.t k),none⟩
def xF (d:Nat):yB:=⟨some d,.mv (.c (.bool false)),none⟩
def xT (d:Nat):yB:=⟨some d,.mv (.c (.bool true)),none⟩
def xe (d k:Nat):yB:=⟨some d,.len (.t k),none⟩
def xk (d k:Nat):yB:=⟨some d,.nilck (.t k),none⟩
def xb (d k:Nat):yB:=⟨some d,.box (.t k),none⟩
def xc1 (d f:Nat) (a:Arg):yB:=⟨some d,.call f [false] [a],none⟩
def xc2 (d f:Nat) (a b:Arg):yB:=⟨some d,.call f [false,false] [a,b],none⟩
def xc3 (d f:Nat) (a b c:Arg):yB:=⟨some d,.call f [false,false,false] [a,b,c],none⟩
def xS (a b c:Nat):yB:=⟨none,.store a (.t b) (.t c),none⟩
def bI (d:Nat) (o:BinOp) (a:Nat) (n:Int):yB:=⟨some d,.bin o (.t a) (.c (.int .i64 n)),none⟩
def bT (d:Nat) (o:BinOp) (a b:Nat):yB:=⟨some d,.bin o (.t a) (.t b),none⟩
def xI (d:Nat) (n:Int):yB:=⟨some d,.mv (.c (.int .i64 n)),none⟩
def xD (d s a b:Nat):yB:=⟨some d,.iad s (.t a) (.t b),none⟩
def xN (d a:Nat):yB:=⟨some d,.un .«not» (.t a),none⟩
def xP (d a b:Nat):yB:=⟨some d,.pick (.t a) (.t b) (.c (.bool false)),none⟩
def xQ (d a b:Nat):yB:=⟨some d,.pick (.t a) (.c (.bool true)) (.t b),none⟩
def xX (d a k:Nat):yB:=⟨some d,.ext (.t a) k,none⟩
def xA (d s b p q:Nat):yB:=⟨some d,.app s b (.t p) (.t q),none⟩
def yl (d n a g:Nat):yB:=⟨some d,.load n false (.t a),some (g,true)⟩
def zl (d n a g:Nat):yB:=⟨some d,.load n false (.t a),some (g,false)⟩
def ya (d f a g:Nat):yB:=⟨some d,.fad f (.t a),some (g,true)⟩
def za (d f a g:Nat):yB:=⟨some d,.fad f (.t a),some (g,false)⟩
def yv (d a g:Nat):yB:=⟨some d,.mv (.t a),some (g,true)⟩
def zv (d a g:Nat):yB:=⟨some d,.mv (.t a),some (g,false)⟩
def yI (d:Nat) (o:BinOp) (a:Nat) (n:Int) (g:Nat):yB:=⟨some d,.bin o (.t a) (.c (.int .i64 n)),some (g,true)⟩
def zI (d:Nat) (o:BinOp) (a:Nat) (n:Int) (g:Nat):yB:=⟨some d,.bin o (.t a) (.c (.int .i64 n)),some (g,false)⟩
def yN (d a g:Nat):yB:=⟨some d,.un .«not» (.t a),some (g,true)⟩
def zN (d a g:Nat):yB:=⟨some d,.un .«not» (.t a),some (g,false)⟩
def ye (d a g:Nat):yB:=⟨some d,.len (.t a),some (g,true)⟩
def ze (d a g:Nat):yB:=⟨some d,.len (.t a),some (g,false)⟩
def kr (L:List yB) (k:bG):bG:=.seq (.reg false L) k
def kR (L:List yB):bG:=.seq (.reg false L) .ret
def kF (n:Nat) (L:List yB):bG:=.cond n (.seq (.reg false L) .ret) .skip
def kX (n e:Nat):bG:=.cond n .skip (.exit e)
attribute [go_sem] xa xl xm xF xT xe xk xb xc1 xc2 xc3 xS bI bT xI xD xN xP xQ xX xA yl zl ya za yv zv yI zI yN zN ye ze kr kR kF kX
end Go.Sep

