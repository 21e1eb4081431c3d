/- The numbers of the program's functions. -/
import Derived.Test.YtfecojefbnnknaaGreatRzRead
import Derived.Test.YtfecojefbnnknaaGreatProg
namespace Go.Sep
set_option maxHeartbeats 16000000
open Go.Proofs
set_option maxRecDepth 100000
def wB5:List Nat:=[0,0,1,2,0,80,0,0,82,0,0,0,0,0,0,0,84,86,0,6,0,0,0,13,24,25,0,41,42,0,43,44,0,0,99,78,93,46,52,48,138,108,0,68,116,0,0,0,23,66,67,79,81,83,85,47,92,91,89,55,109,110,63,0,73,0,0,39,65,104,105,106,107,117,118,119,120,88,127,128,129,130,70,0,0,64,0,0,76,135,136,122,111,0,0,0,114,115,137,162,163,164,165,166,167,168,169,170,171,172,173,174,175,176,177,0,0,0,0,0,0,0,0,0,0,0,0,0,0,0,0,0,0,0,0,0,0,0,0,0,0,0,0,0,0,0,0,0,0,0,0,0,0,0,0,0,0,0,0,35,26,0,0,0,0,0,0,0,7,8,53,0,0,0,0,0,0,0,0,0,0,0,0,0,0,0,0,0,0,75,74,45,0,0,0,0,0,0,0,0,50,28,0,0,0,0,0,0,0,0,0,0,0,49,17,94,95,96,56,97,98,0,0,0,0,0,0,0,0,0,0,0,0,0,0,0,0,0,62,113,112,87,0,0,0,0,0,90,61,33,54,0,0,0,0,0,0,0,0,0,0,0,0,0,0,0,0,0,0,0,14,100,124,123,0,0,0,0,0,0,0,0,0,0,0,0,0,0,0,133,134,131,132,121,0,72,0,0,0,0,0,0,0,0,0,0,0,0,0,0,0,0,139,140,141,142,143,144,145,146,147,0,0,0,0,152,103,153,59,154,150,151,0,155,156,157,158,159,160,148,149,0,0,0,126,161,0,0,0,0,0,0,0,0,0,0,0,0,0,0,0,0,0,0,0,0,0,0,0,0,0,0,0,0,0,0,0,0,0,0,0,0,0,0,0,0,0,0,0,0,0,0,0,0,0,0,0,0,0,0,0,0,0,0,0,0,0,0,0,0,0,0,0,0,0,0,0,0,0,0,0,0,0,0,0,0,0,0,0,0,0,0,0,0,0,0,0,0,0,0,0,0,0,0,0,0,0,0,0,0,0,0,0,0,0,0,0,0,0,0,0,0,0,0,0,0,0,0,0,0,0,0,0,0,0,0,0,0,0,0,0,16,19,0,51,0,0,37,0,0,57,0,101,102,125,60,3,9,10,11,12,15,18,20,21,22,4,27,29,30,31,32,34,36,38,40,5,58,69,71,77]
def num (n:Nat):Nat:=wB5.getD n 0
theorem EN (m:MFn) {f:Nat} {fn:Go.Func} {args:List AV} {res:AV} (hf:Tryz.prog.funcs[num f]?=some fn)
  (hv:vc Tryz.prog num (Fin m.results [] res) [.code m.body] (.mk (kD 0 args) (vY []) 10)) (hc:mT Tryz.prog num fn.ntmps m.body ((fn.body).getD .skip)=true:=by kernel_rfl) (hn:Nat.ble args.length fn.ntmps=true:=by kernel_rfl) (hnm:(fn.name == "runtime.NumGoroutine")=false:=by kernel_rfl) (hbd:fn.body=some ((fn.body).getD .skip):=by rfl)
  (hr:aS Tryz.prog fn.results.toList m.results=true:=by rfl) (hb:jK (· < 10) args:=by simp [jK,bnd,zM,qL4,qE8,qW1,yZ]):qY Tryz.prog num f args [] res :=
 enter hf hnm hbd hc hr (Nat.le_of_ble_eq_true hn) hb (fun _ _ h=>by simp [vY,qQ] at h) hv
theorem EH (m:MFn) {f:Nat} {fn:Go.Func} {args:List AV} {fp:FP} {res:AV} (hf:Tryz.prog.funcs[num f]?=some fn)
  (hv:vc Tryz.prog num (Fin m.results fp res) [.code m.body] (.mk (kD 0 args) (vY fp) 10)) (hc:mT Tryz.prog num fn.ntmps m.body ((fn.body).getD .skip)=true:=by kernel_rfl) (hn:Nat.ble args.length fn.ntmps=true:=by kernel_rfl) (hnm:(fn.name == "runtime.NumGoroutine")=false:=by kernel_rfl) (hbd:fn.body=some ((fn.body).getD .skip):=by rfl)
  (hr:aS Tryz.prog fn.results.toList m.results=true:=by rfl) (hb:jK (· < 10) args:=by simp [jK,bnd,zM,qL4,qE8,qW1,yZ])
  (hh:HB (vY fp) 10:=by first | (simp [vY,sU,mL,yZ]; done) | exact mL _ _ _ _ ((sU _).2 trivial) (by decide) (by simp [yZ,yW,jK,bnd])):qY Tryz.prog num f args fp res :=
 enter hf hnm hbd hc hr (Nat.le_of_ble_eq_true hn) hb hh hv
theorem fz {rs:List qE1} {fp:FP} {v:AV} {s:AS} (h:yQ rs fp v s):Fin rs fp v s:=⟨_,Sub.refl _,h⟩
def xa (d f n:Nat):yC:=⟨some d,.fad f (.t n),none⟩
def xl (d n:Nat):yC:=⟨some d,.load 1 false (.t n),none⟩
def xm (d n k:Nat):yC:=⟨some d,.load n true (.t k),none⟩
def xF (d:Nat):yC:=⟨some d,.mv (.c (.bool false)),none⟩
def xT (d:Nat):yC:=⟨some d,.mv (.c (.bool true)),none⟩
def xe (d k:Nat):yC:=⟨some d,.len (.t k),none⟩
def xk (d k:Nat):yC:=⟨some d,.nilck (.t k),none⟩
def xb (d k:Nat):yC:=⟨some d,.box (.t k),none⟩
def xc1 (d f:Nat) (a:Arg):yC:=⟨some d,.call f [false] [a],none⟩
def xc2 (d f:Nat) (a b:Arg):yC:=⟨some d,.call f [false,false] [a,b],none⟩
def xc3 (d f:Nat) (a b c:Arg):yC:=⟨some d,.call f [false,false,false] [a,b,c],none⟩
def xS (a b c:Nat):yC:=⟨none,.store a (.t b) (.t c),none⟩
def bI (d:Nat) (o:BinOp) (a:Nat) (n:Int):yC:=⟨some d,.bin o (.t a) (.c (.int .i64 n)),none⟩
def bT (d:Nat) (o:BinOp) (a b:Nat):yC:=⟨some d,.bin o (.t a) (.t b),none⟩
def xI (d:Nat) (n:Int):yC:=⟨some d,.mv (.c (.int .i64 n)),none⟩
def xD (d s a b:Nat):yC:=⟨some d,.iad s (.t a) (.t b),none⟩
def xN (d a:Nat):yC:=⟨some d,.un .«not» (.t a),none⟩
def xP (d a b:Nat):yC:=⟨some d,.pick (.t a) (.t b) (.c (.bool false)),none⟩
def xQ (d a b:Nat):yC:=⟨some d,.pick (.t a) (.c (.bool true)) (.t b),none⟩
def xX (d a k:Nat):yC:=⟨some d,.ext (.t a) k,none⟩
def xA (d s b p q:Nat):yC:=⟨some d,.app s b (.t p) (.t q),none⟩
def yl (d n a g:Nat):yC:=⟨some d,.load n false (.t a),some (g,true)⟩
def zl (d n a g:Nat):yC:=⟨some d,.load n false (.t a),some (g,false)⟩
def ya (d f a g:Nat):yC:=⟨some d,.fad f (.t a),some (g,true)⟩
def za (d f a g:Nat):yC:=⟨some d,.fad f (.t a),some (g,false)⟩
def yv (d a g:Nat):yC:=⟨some d,.mv (.t a),some (g,true)⟩
def zv (d a g:Nat):yC:=⟨some d,.mv (.t a),some (g,false)⟩
def yI (d:Nat) (o:BinOp) (a:Nat) (n:Int) (g:Nat):yC:=⟨some d,.bin o (.t a) (.c (.int .i64 n)),some (g,true)⟩
def zI (d:Nat) (o:BinOp) (a:Nat) (n:Int) (g:Nat):yC:=⟨some d,.bin o (.t a) (.c (.int .i64 n)),some (g,false)⟩
def yN (d a g:Nat):yC:=⟨some d,.un .«not» (.t a),some (g,true)⟩
def zN (d a g:Nat):yC:=⟨some d,.un .«not» (.t a),some (g,false)⟩
def ye (d a g:Nat):yC:=⟨some d,.len (.t a),some (g,true)⟩
def ze (d a g:Nat):yC:=⟨some d,.len (.t a),some (g,false)⟩
def kr (L:List yC) (k:bK):bK:=.seq (.reg false L) k
def kR (L:List yC):bK:=.seq (.reg false L) .ret
def kF (n:Nat) (L:List yC):bK:=.cond n (.seq (.reg false L) .ret) .skip
def kX (n e:Nat):bK:=.cond n .skip (.exit e)
attribute [go_sem] xa xl xm xF xT xe xk xb xc1 xc2 xc3 xS bI bT xI xD xN xP xQ xX xA yl zl ya za yv zv yI zI yN zN ye ze kr kR kF kX
end Go.Sep

