/- The numbers of the program's functions. -/
import Derived.Test.YtfecojefbnnknaaLzRead
import Derived.Test.YtfecojefbnnknaaProg
namespace Go.Sep
set_option maxHeartbeats 16000000
open Go.Proofs
set_option maxRecDepth 100000
def qZa:List Nat:=[0,0,1,2,0,0,0,0,0,0,0,0,0,0,0,0,0,0,0,6,0,0,0,18,9,10,0,0,0,0,0,0,0,0,39,0,32,21,0,23,98,57,0,30,82,0,0,0,27,28,29,0,0,0,0,22,74,66,47,52,58,59,0,0,68,0,0,31,51,53,54,55,56,0,0,0,0,46,76,77,78,79,43,0,0,0,0,0,60,0,0,73,67,0,0,0,80,81,97,109,110,111,112,113,114,115,116,117,118,119,120,121,122,123,124,0,0,0,0,0,0,0,0,0,0,0,0,0,0,0,0,0,0,0,0,0,0,0,0,0,0,0,0,0,14,0,0,0,0,0,0,0,0,0,0,0,0,0,12,40,15,0,0,0,0,0,0,3,7,8,11,0,0,0,0,0,0,0,0,0,0,0,0,0,20,0,0,0,0,0,41,0,0,0,0,0,0,0,0,0,25,64,0,0,0,0,0,0,0,0,0,0,0,24,26,33,34,36,35,37,38,0,0,0,0,0,0,0,0,0,0,0,0,0,0,0,0,0,0,0,65,0,0,0,0,0,0,48,49,94,75,0,0,0,0,0,0,0,0,0,0,0,0,0,0,0,0,0,0,0,50,61,63,62,0,0,0,0,0,0,0,0,0,0,0,0,0,0,0,0,0,95,96,0,0,105,0,0,0,0,0,0,0,0,0,0,0,0,0,0,0,0,83,84,85,86,87,88,89,90,91,0,0,0,0,0,69,0,0,0,106,107,0,99,100,101,102,103,104,92,93,0,0,0,72,108,0,0,0,0,0,0,0,0,0,0,0,0,0,0,0,0,0,0,0,0,0,0,0,0,0,0,0,0,0,0,0,0,0,0,0,0,0,0,0,0,0,0,0,0,0,0,0,0,0,0,0,0,0,0,0,0,0,0,0,0,0,0,0,0,0,0,0,0,0,0,0,0,0,0,0,0,0,0,0,0,0,0,0,0,0,0,0,0,0,0,0,0,0,0,0,0,0,0,0,0,0,0,0,0,0,0,0,0,0,0,0,0,0,0,0,0,0,0,0,0,0,0,0,0,0,0,0,0,0,0,0,0,0,0,0,0,0,0,42,0,4,13,5,16,17,19,44,45,71,70]
def num (n:Nat):Nat:=qZa.getD n 0
theorem EN (m:MFn) {f:Nat} {fn:Go.Func} {args:List AV} {res:AV} (hf:Try.prog.funcs[num f]?=some fn)
  (hv:vc Try.prog num (Fin m.results [] res) [.code m.body] (.mk (hZ 0 args) (vV []) 10)) (hc:lK Try.prog num fn.ntmps m.body ((fn.body).getD .skip)=true:=by kernel_rfl) (hn:Nat.ble args.length fn.ntmps=true:=by kernel_rfl) (hnm:(fn.name == "runtime.NumGoroutine")=false:=by kernel_rfl) (hbd:fn.body=some ((fn.body).getD .skip):=by rfl)
  (hr:aJ Try.prog fn.results.toList m.results=true:=by rfl) (hb:jF (· < 10) args:=by simp [jF,bnd,zG,qJg,qD4,qU3,yU]):wD Try.prog num f args [] res :=
 enter hf hnm hbd hc hr (Nat.le_of_ble_eq_true hn) hb (fun _ _ h=>by simp [vV,qN] at h) hv
theorem EH (m:MFn) {f:Nat} {fn:Go.Func} {args:List AV} {fp:FP} {res:AV} (hf:Try.prog.funcs[num f]?=some fn)
  (hv:vc Try.prog num (Fin m.results fp res) [.code m.body] (.mk (hZ 0 args) (vV fp) 10)) (hc:lK Try.prog num fn.ntmps m.body ((fn.body).getD .skip)=true:=by kernel_rfl) (hn:Nat.ble args.length fn.ntmps=true:=by kernel_rfl) (hnm:(fn.name == "runtime.NumGoroutine")=false:=by kernel_rfl) (hbd:fn.body=some ((fn.body).getD .skip):=by rfl)
  (hr:aJ Try.prog fn.results.toList m.results=true:=by rfl) (hb:jF (· < 10) args:=by simp [jF,bnd,zG,qJg,qD4,qU3,yU])
  (hh:HB (vV fp) 10:=by first | (simp [vV,rB,lD,yU]; done) | exact lD _ _ _ _ ((rB _).2 trivial) (by decide) (by simp [yU,yQ,jF,bnd])):wD Try.prog num f args fp res :=
 enter hf hnm hbd hc hr (Nat.le_of_ble_eq_true hn) hb hh hv
theorem fz {rs:List qCx} {fp:FP} {v:AV} {s:AS} (h:yL rs fp v s):Fin rs fp v s:=⟨_,Sub.refl _,h⟩
def xa (d f n:Nat):yA:=⟨some d,.fad f (.t n),none⟩
def xl (d n:Nat):yA:=⟨some d,.load 1 false (.t n),none⟩
def xm (d n k:Nat):yA:=⟨some d,.load n true (.t k),none⟩
def xF (d:Nat):yA:=⟨some d,.mv (.c (.bool false)),none⟩
def xT (d:Nat):yA:=⟨some d,.mv (.c (.bool true)),none⟩
def xe (d k:Nat):yA:=⟨some d,.len (.t k),none⟩
def xk (d k:Nat):yA:=⟨some d,.nilck (.t k),none⟩
def xb (d k:Nat):yA:=⟨some d,.box (.t k),none⟩
def xc1 (d f:Nat) (a:Arg):yA:=⟨some d,.call f [false] [a],none⟩
def xc2 (d f:Nat) (a b:Arg):yA:=⟨some d,.call f [false,false] [a,b],none⟩
def xc3 (d f:Nat) (a b c:Arg):yA:=⟨some d,.call f [false,false,false] [a,b,c],none⟩
def xS (a b c:Nat):yA:=⟨none,.store a (.t b) (.t c),none⟩
def bI (d:Nat) (o:BinOp) (a:Nat) (n:Int):yA:=⟨some d,.bin o (.t a) (.c (.int .i64 n)),none⟩
def bT (d:Nat) (o:BinOp) (a b:Nat):yA:=⟨some d,.bin o (.t a) (.t b),none⟩
def xI (d:Nat) (n:Int):yA:=⟨some d,.mv (.c (.int .i64 n)),none⟩
def xD (d s a b:Nat):yA:=⟨some d,.iad s (.t a) (.t b),none⟩
def xN (d a:Nat):yA:=⟨some d,.un .«not» (.t a),none⟩
def xP (d a b:Nat):yA:=⟨some d,.pick (.t a) (.t b) (.c (.bool false)),none⟩
def xQ (d a b:Nat):yA:=⟨some d,.pick (.t a) (.c (.bool true)) (.t b),none⟩
def xX (d a k:Nat):yA:=⟨some d,.ext (.t a) k,none⟩
def xA (d s b p q:Nat):yA:=⟨some d,.app s b (.t p) (.t q),none⟩
def yl (d n a g:Nat):yA:=⟨some d,.load n false (.t a),some (g,true)⟩
def zl (d n a g:Nat):yA:=⟨some d,.load n false (.t a),some (g,false)⟩
def ya (d f a g:Nat):yA:=⟨some d,.fad f (.t a),some (g,true)⟩
def za (d f a g:Nat):yA:=⟨some d,.fad f (.t a),some (g,false)⟩
def yv (d a g:Nat):yA:=⟨some d,.mv (.t a),some (g,true)⟩
def zv (d a g:Nat):yA:=⟨some d,.mv (.t a),some (g,false)⟩
def yI (d:Nat) (o:BinOp) (a:Nat) (n:Int) (g:Nat):yA:=⟨some d,.bin o (.t a) (.c (.int .i64 n)),some (g,true)⟩
def zI (d:Nat) (o:BinOp) (a:Nat) (n:Int) (g:Nat):yA:=⟨some d,.bin o (.t a) (.c (.int .i64 n)),some (g,false)⟩
def yN (d a g:Nat):yA:=⟨some d,.un .«not» (.t a),some (g,true)⟩
def zN (d a g:Nat):yA:=⟨some d,.un .«not» (.t a),some (g,false)⟩
def ye (d a g:Nat):yA:=⟨some d,.len (.t a),some (g,true)⟩
def ze (d a g:Nat):yA:=⟨some d,.len (.t a),some (g,false)⟩
def kr (L:List yA) (k:bF):bF:=.seq (.reg false L) k
def kR (L:List yA):bF:=.seq (.reg false L) .ret
def kF (n:Nat) (L:List yA):bF:=.cond n (.seq (.reg false L) .ret) .skip
def kX (n e:Nat):bF:=.cond n .skip (.exit e)
attribute [go_sem] xa xl xm xF xT xe xk xb xc1 xc2 xc3 xS bI bT xI xD xN xP xQ xX xA yl zl ya za yv zv yI zI yN zN ye ze kr kR kF kX
end Go.Sep

