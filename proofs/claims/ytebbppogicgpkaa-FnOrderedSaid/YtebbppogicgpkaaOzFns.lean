/- The numbers of the program's functions. -/
import Derived.Test.YtebbppogicgpkaaOzRead
import Derived.Test.YtebbppogicgpkaaProg
namespace Go.Sep
set_option maxHeartbeats 16000000
open Go.Proofs
set_option maxRecDepth 100000
def qVf:List Nat:=[0,0,1,2,0,0,0,0,0,0,0,0,0,0,0,0,0,0,0,4,0,0,0,0,22,23,0,0,0,0,0,0,0,0,0,0,27,0,0,0,0,64,0,44,52,0,0,0,29,42,43,0,0,0,0,0,0,0,0,35,65,66,0,0,0,0,0,49,50,26,62,46,63,0,0,0,0,0,36,79,80,81,0,0,0,0,0,0,51,0,0,0,0,0,0,0,67,68,0,83,84,85,86,87,88,89,90,91,92,93,94,95,96,97,98,0,0,0,0,0,0,0,0,0,0,0,0,0,0,0,0,0,0,0,0,0,0,0,0,0,0,0,0,0,0,0,0,0,0,0,0,0,0,0,0,0,0,0,0,0,0,0,0,17,0,0,0,0,0,0,0,0,0,0,0,0,0,0,0,0,0,0,0,0,5,0,0,0,0,0,0,0,0,0,0,0,0,0,0,0,0,0,0,0,0,0,30,31,32,33,0,0,0,0,0,0,0,0,0,0,0,0,0,0,0,0,0,0,0,19,48,0,0,0,0,24,21,0,0,0,0,0,0,0,0,0,0,0,0,0,0,0,0,0,0,0,0,0,0,0,0,0,41,53,54,55,56,57,58,0,0,0,0,0,0,0,0,0,0,0,40,0,0,0,0,0,45,47,0,0,0,0,0,0,0,0,0,0,0,0,0,0,69,70,71,72,73,74,75,76,77,59,0,0,0,0,0,0,0,0,0,0,0,0,0,0,0,0,0,0,0,0,82,0,0,0,0,0,0,0,0,0,0,0,0,0,16,0,0,0,0,0,0,0,0,0,0,0,14,20,0,0,0,0,0,0,25,37,38,39,0,0,0,0,0,0,0,60,61,0,0,0,78,0,0,0,0,0,0,0,0,0,9,0,0,0,0,0,0,0,0,0,0,0,8,0,0,6,0,0,7,0,0,0,0,0,18,0,0,12,0,0,0,0,0,0,13,15,10,0,11,0,34,0,0,0,0,28,0,0,0,0,0,0,0,0,0,0,0,0,0,0,0,0,0,0,0,0,0,0,0,0,0,0,0,0,0,0,0,0,0,0,0,0,3]
def num (n:Nat):Nat:=qVf.getD n 0
theorem EN (m:MFn) {f:Nat} {fn:Go.Func} {args:List AV} {res:AV} (hf:Try.prog.funcs[num f]?=some fn)
  (hv:vc Try.prog num (Fin m.results [] res) [.code m.body] (.mk (kV 0 args) (vW []) 10)) (hc:mU Try.prog num fn.ntmps m.body ((fn.body).getD .skip)=true:=by kernel_rfl) (hn:Nat.ble args.length fn.ntmps=true:=by kernel_rfl) (hnm:(fn.name == "runtime.NumGoroutine")=false:=by kernel_rfl) (hbd:fn.body=some ((fn.body).getD .skip):=by rfl)
  (hr:eV Try.prog fn.results.toList m.results=true:=by rfl) (hb:jJ (· < 10) args:=by simp [jJ,bnd,aW,qJ1,qCy,qRz,yS]):wD Try.prog num f args [] res :=
 enter hf hnm hbd hc hr (Nat.le_of_ble_eq_true hn) hb (fun _ _ h=>by simp [vW,qO] at h) hv
theorem EH (m:MFn) {f:Nat} {fn:Go.Func} {args:List AV} {fp:FP} {res:AV} (hf:Try.prog.funcs[num f]?=some fn)
  (hv:vc Try.prog num (Fin m.results fp res) [.code m.body] (.mk (kV 0 args) (vW fp) 10)) (hc:mU Try.prog num fn.ntmps m.body ((fn.body).getD .skip)=true:=by kernel_rfl) (hn:Nat.ble args.length fn.ntmps=true:=by kernel_rfl) (hnm:(fn.name == "runtime.NumGoroutine")=false:=by kernel_rfl) (hbd:fn.body=some ((fn.body).getD .skip):=by rfl)
  (hr:eV Try.prog fn.results.toList m.results=true:=by rfl) (hb:jJ (· < 10) args:=by simp [jJ,bnd,aW,qJ1,qCy,qRz,yS])
  (hh:HB (vW fp) 10:=by first | (simp [vW,rW,gW,yS]; done) | exact gW _ _ _ _ ((rW _).2 trivial) (by decide) (by simp [yS,yV,jJ,bnd])):wD Try.prog num f args fp res :=
 enter hf hnm hbd hc hr (Nat.le_of_ble_eq_true hn) hb hh hv
theorem fz {rs:List qCs} {fp:FP} {v:AV} {s:AS} (h:yB rs fp v s):Fin rs fp v s:=⟨_,Sub.refl _,h⟩
def xa (d f n:Nat):yC:=⟨some d,.fad f (.t n),none⟩
def xl (d n:Nat):yC:=⟨some d,.load 1 false (.t n),none⟩
def xm (d n k:Nat):yC:=⟨some d,.load n true (.t k),none⟩
def xF (d:Nat):yC:=⟨some d,.mv (.c (.bool false)),none⟩
def xT (d:Nat):yC:=⟨some d,.mv (.c (.bool true)),none⟩
def xe (d k:Nat):yC:=⟨some d,.len (.t k),none⟩
def xk (d k:Nat):yC:=⟨some d,.nilck (.t k),none⟩
def xb (d k:Nat):yC:=⟨some d,.box (.t k),none⟩
def xc1 (d f:Nat) (a:Arg):yC:=⟨some d,.call f [false] [a],none⟩
def xc2 (d f:Nat) (a b:Arg):yC:=⟨some d,.call f [false,false] [a,b],none⟩
def xc3 (d f:Nat) (a b c:Arg):yC:=⟨some d,.call f [false,false,false] [a,b,c],none⟩
def xS (a b c:Nat):yC:=⟨none,.store a (.t b) (.t c),none⟩
def bI (d:Nat) (o:BinOp) (a:Nat) (n:Int):yC:=⟨some d,.bin o (.t a) (.c (.int .i64 n)),none⟩
def bT (d:Nat) (o:BinOp) (a b:Nat):yC:=⟨some d,.bin o (.t a) (.t b),none⟩
def xI (d:Nat) (n:Int):yC:=⟨some d,.mv (.c (.int .i64 n)),none⟩
def xD (d s a b:Nat):yC:=⟨some d,.iad s (.t a) (.t b),none⟩
def xN (d a:Nat):yC:=⟨some d,.un .«not» (.t a),none⟩
def xP (d a b:Nat):yC:=⟨some d,.pick (.t a) (.t b) (.c (.bool false)),none⟩
def xQ (d a b:Nat):yC:=⟨some d,.pick (.t a) (.c (.bool true)) (.t b),none⟩
def xX (d a k:Nat):yC:=⟨some d,.ext (.t a) k,none⟩
def xA (d s b p q:Nat):yC:=⟨some d,.app s b (.t p) (.t q),none⟩
def yl (d n a g:Nat):yC:=⟨some d,.load n false (.t a),some (g,true)⟩
def zl (d n a g:Nat):yC:=⟨some d,.load n false (.t a),some (g,false)⟩
def ya (d f a g:Nat):yC:=⟨some d,.fad f (.t a),some (g,true)⟩
def za (d f a g:Nat):yC:=⟨some d,.fad f (.t a),some (g,false)⟩
def yv (d a g:Nat):yC:=⟨some d,.mv (.t a),some (g,true)⟩
def zv (d a g:Nat):yC:=⟨some d,.mv (.t a),some (g,false)⟩
def yI (d:Nat) (o:BinOp) (a:Nat) (n:Int) (g:Nat):yC:=⟨some d,.bin o (.t a) (.c (.int .i64 n)),some (g,true)⟩
def zI (d:Nat) (o:BinOp) (a:Nat) (n:Int) (g:Nat):yC:=⟨some d,.bin o (.t a) (.c (.int .i64 n)),some (g,false)⟩
def yN (d a g:Nat):yC:=⟨some d,.un .«not» (.t a),some (g,true)⟩
def zN (d a g:Nat):yC:=⟨some d,.un .«not» (.t a),some (g,false)⟩
def ye (d a g:Nat):yC:=⟨some d,.len (.t a),some (g,true)⟩
def ze (d a g:Nat):yC:=⟨some d,.len (.t a),some (g,false)⟩
def kr (L:List yC) (k:bK):bK:=.seq (.reg false L) k
def kR (L:List yC):bK:=.seq (.reg false L) .ret
def kF (n:Nat) (L:List yC):bK:=.cond n (.seq (.reg false L) .ret) .skip
def kX (n e:Nat):bK:=.cond n .skip (.exit e)
theorem FB (nm f:Nat) {k off i:Nat} {t:List (Nat×AV)} {h:wQ} {nx sz sz' len:Nat} {l rows':List (List AV)} {r:List AV} {s':AS} (hr:Sub (.mk t (del (put h nm (sz,l.set i (r.set f (.sl .own sz' (zO off len rows'))))) k) nx) s')
  (hnm:qO h nm=some (sz,l.set i r):=by rfl) (hf:r[f]?=some (.ns k off len):=by rfl) (hk:qO h k=some (sz',rows'):=by rfl) (hne:k≠nm:=by decide) (hk10:10≤k:=by decide)
  (hlen:off+len≤rows'.length:=by (simp [-List.getD_eq_getElem?_getD]<;>omega)) (hi:i<l.length:=by (simp<;>omega)):Sub (.mk t h nx) s':=Sub.trans (Sub.foldAt nm f k hk hlen hnm hne hk10 hf hi) hr
theorem F2 (nm f:Nat) {k off:Nat} {t:List (Nat×AV)} {h:wQ} {nx sz sz' len:Nat} {rows':List (List AV)} {r:List AV} {s':AS} (hr:Sub (.mk t (del (put h nm (sz,[r.set f (.sl .own sz' (zO off len rows'))])) k) nx) s')
  (hnm:qO h nm=some (sz,[r]):=by rfl) (hf:r[f]?=some (.ns k off len):=by rfl) (hk:qO h k=some (sz',rows'):=by rfl) (hne:k≠nm:=by decide) (hk10:10≤k:=by decide)
  (hlen:off+len≤rows'.length:=by (simp [-List.getD_eq_getElem?_getD]<;>omega)):Sub (.mk t h nx) s':=Sub.trans (Sub.fold1 nm f k hk hlen hnm hne hk10 hf) hr
attribute [go_sem] xa xl xm xF xT xe xk xb xc1 xc2 xc3 xS bI bT xI xD xN xP xQ xX xA yl zl ya za yv zv yI zI yN zN ye ze kr kR kF kX
end Go.Sep

