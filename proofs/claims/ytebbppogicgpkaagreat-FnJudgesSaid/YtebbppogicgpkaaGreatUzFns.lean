/- The numbers of the program's functions. -/
import Derived.Test.YtebbppogicgpkaaGreatUzRead
import Derived.Test.YtebbppogicgpkaaGreatProg
namespace Go.Sep
set_option maxHeartbeats 16000000
open Go.Proofs
set_option maxRecDepth 100000
def qXb:List Nat:=[0,0,1,2,0,112,0,0,115,0,0,0,0,0,0,0,0,0,0,14,0,0,0,18,19,20,0,41,44,0,46,0,0,0,88,108,143,63,98,97,150,82,0,75,199,162,197,0,72,73,74,109,113,116,0,64,152,153,151,91,146,147,119,120,69,196,219,140,141,142,144,92,145,159,160,161,0,132,175,186,187,188,164,165,218,104,234,235,185,194,195,174,198,237,238,239,215,216,133,240,241,242,243,244,245,246,247,248,249,250,251,252,253,254,255,0,0,0,0,0,0,0,0,0,0,0,0,0,0,0,0,0,0,0,0,0,0,0,0,0,0,0,0,0,0,163,0,102,0,0,0,0,0,0,0,0,0,0,0,0,28,0,136,122,0,0,0,0,0,0,0,0,0,0,54,53,0,0,0,0,0,0,0,0,29,0,0,0,0,0,0,0,0,0,0,0,0,0,0,0,0,0,171,180,181,106,76,166,167,93,0,0,0,66,0,0,0,0,0,0,0,0,0,0,126,127,0,0,0,124,125,0,0,40,71,33,135,0,0,0,0,0,0,0,0,0,0,0,0,0,0,172,170,207,208,209,210,128,211,212,213,158,179,200,201,202,203,204,149,0,0,0,0,0,0,0,0,0,0,0,169,0,0,105,107,139,77,94,0,0,0,0,0,0,0,0,229,230,231,232,233,193,220,221,222,223,224,225,226,227,189,190,0,0,0,0,0,0,0,0,0,0,0,0,0,0,0,0,0,0,0,0,236,0,0,0,0,0,0,0,0,0,0,0,0,0,86,0,114,0,0,0,0,0,0,0,101,70,84,134,0,0,0,0,103,138,148,176,177,178,0,0,155,156,157,183,184,205,206,0,0,214,228,0,42,45,192,0,47,0,0,68,51,0,50,23,0,60,25,0,37,31,0,39,27,0,17,16,0,58,48,0,59,24,117,137,123,121,56,80,55,130,129,21,22,100,83,85,67,131,81,182,168,110,173,78,79,90,3,15,4,26,5,30,6,32,7,34,35,8,36,38,9,43,10,11,49,52,12,57,61,13,62,65,87,89,95,96,99,111,118,154,191,217]
def num (n:Nat):Nat:=qXb.getD n 0
theorem EN (m:MFn) {f:Nat} {fn:Go.Func} {args:List AV} {res:AV} (hf:Tryz.prog.funcs[num f]?=some fn)
  (hv:vc Tryz.prog num (Fin m.results [] res) [.code m.body] (.mk (lA 0 args) (vW []) 10)) (hc:mX Tryz.prog num fn.ntmps m.body ((fn.body).getD .skip)=true:=by kernel_rfl) (hn:Nat.ble args.length fn.ntmps=true:=by kernel_rfl) (hnm:(fn.name == "runtime.NumGoroutine")=false:=by kernel_rfl) (hbd:fn.body=some ((fn.body).getD .skip):=by rfl)
  (hr:cR Tryz.prog fn.results.toList m.results=true:=by rfl) (hb:vL (· < 10) args:=by simp [vL,bnd,eU,qE7,qA3,qM1,jB]):qU Tryz.prog num f args [] res :=
 enter hf hnm hbd hc hr (Nat.le_of_ble_eq_true hn) hb (fun _ _ h=>by simp [vW,wE] at h) hv
theorem EH (m:MFn) {f:Nat} {fn:Go.Func} {args:List AV} {fp:FP} {res:AV} (hf:Tryz.prog.funcs[num f]?=some fn)
  (hv:vc Tryz.prog num (Fin m.results fp res) [.code m.body] (.mk (lA 0 args) (vW fp) 10)) (hc:mX Tryz.prog num fn.ntmps m.body ((fn.body).getD .skip)=true:=by kernel_rfl) (hn:Nat.ble args.length fn.ntmps=true:=by kernel_rfl) (hnm:(fn.name == "runtime.NumGoroutine")=false:=by kernel_rfl) (hbd:fn.body=some ((fn.body).getD .skip):=by rfl)
  (hr:cR Tryz.prog fn.results.toList m.results=true:=by rfl) (hb:vL (· < 10) args:=by simp [vL,bnd,eU,qE7,qA3,qM1,jB])
  (hh:HB (vW fp) 10:=by first | (simp [vW,mP,vY,jB]; done) | exact vY _ _ _ _ ((mP _).2 trivial) (by decide) (by simp [jB,jU,vL,bnd])):qU Tryz.prog num f args fp res :=
 enter hf hnm hbd hc hr (Nat.le_of_ble_eq_true hn) hb hh hv
theorem fz {rs:List qAl} {fp:FP} {v:AV} {s:AS} (h:wA rs fp v s):Fin rs fp v s:=⟨_,Sub.refl _,h⟩
def xa (d f n:Nat):yS:=⟨some d,.fad f (.t n),none⟩
def xl (d n:Nat):yS:=⟨some d,.load 1 false (.t n),none⟩
def xm (d n k:Nat):yS:=⟨some d,.load n true (.t k),none⟩
def xF (d:Nat):yS:=⟨some d,.mv (.c (.bool false)),none⟩
def xT (d:Nat):yS:=⟨some d,.mv (.c (.bool true)),none⟩
def xe (d k:Nat):yS:=⟨some d,.len (.t k),none⟩
def xk (d k:Nat):yS:=⟨some d,.nilck (.t k),none⟩
def xb (d k:Nat):yS:=⟨some d,.box (.t k),none⟩
def xc1 (d f:Nat) (a:Arg):yS:=⟨some d,.call f [false] [a],none⟩
def xc2 (d f:Nat) (a b:Arg):yS:=⟨some d,.call f [false,false] [a,b],none⟩
def xc3 (d f:Nat) (a b c:Arg):yS:=⟨some d,.call f [false,false,false] [a,b,c],none⟩
def xS (a b c:Nat):yS:=⟨none,.store a (.t b) (.t c),none⟩
def bI (d:Nat) (o:BinOp) (a:Nat) (n:Int):yS:=⟨some d,.bin o (.t a) (.c (.int .i64 n)),none⟩
def bT (d:Nat) (o:BinOp) (a b:Nat):yS:=⟨some d,.bin o (.t a) (.t b),none⟩
def xI (d:Nat) (n:Int):yS:=⟨some d,.mv (.c (.int .i64 n)),none⟩
def xD (d s a b:Nat):yS:=⟨some d,.iad s (.t a) (.t b),none⟩
def xN (d a:Nat):yS:=⟨some d,.un .«not» (.t a),none⟩
def xP (d a b:Nat):yS:=⟨some d,.pick (.t a) (.t b) (.c (.bool false)),none⟩
def xQ (d a b:Nat):yS:=⟨some d,.pick (.t a) (.c (.bool true)) (.t b),none⟩
def xX (d a k:Nat):yS:=⟨some d,.ext (.t a) k,none⟩
def xA (d s b p q:Nat):yS:=⟨some d,.app s b (.t p) (.t q),none⟩
def yl (d n a g:Nat):yS:=⟨some d,.load n false (.t a),some (g,true)⟩
def zl (d n a g:Nat):yS:=⟨some d,.load n false (.t a),some (g,false)⟩
def ya (d f a g:Nat):yS:=⟨some d,.fad f (.t a),some (g,true)⟩
def za (d f a g:Nat):yS:=⟨some d,.fad f (.t a),some (g,false)⟩
def yv (d a g:Nat):yS:=⟨some d,.mv (.t a),some (g,true)⟩
def zv (d a g:Nat):yS:=⟨some d,.mv (.t a),some (g,false)⟩
def yI (d:Nat) (o:BinOp) (a:Nat) (n:Int) (g:Nat):yS:=⟨some d,.bin o (.t a) (.c (.int .i64 n)),some (g,true)⟩
def zI (d:Nat) (o:BinOp) (a:Nat) (n:Int) (g:Nat):yS:=⟨some d,.bin o (.t a) (.c (.int .i64 n)),some (g,false)⟩
def yN (d a g:Nat):yS:=⟨some d,.un .«not» (.t a),some (g,true)⟩
def zN (d a g:Nat):yS:=⟨some d,.un .«not» (.t a),some (g,false)⟩
def ye (d a g:Nat):yS:=⟨some d,.len (.t a),some (g,true)⟩
def ze (d a g:Nat):yS:=⟨some d,.len (.t a),some (g,false)⟩
def kr (L:List yS) (k:dP):dP:=.seq (.reg false L) k
def kR (L:List yS):dP:=.seq (.reg false L) .ret
def kF (n:Nat) (L:List yS):dP:=.cond n (.seq (.reg false L) .ret) .skip
def kX (n e:Nat):dP:=.cond n .skip (.exit e)
theorem FB (nm f:Nat) {k off i:Nat} {t:List (Nat×AV)} {h:yC} {nx sz sz' len:Nat} {l rows':List (List AV)} {r:List AV} {s':AS} (hr:Sub (.mk t (del (put h nm (sz,l.set i (r.set f (.sl .own sz' (eA off len rows'))))) k) nx) s')
  (hnm:wE h nm=some (sz,l.set i r):=by rfl) (hf:r[f]?=some (.ns k off len):=by rfl) (hk:wE h k=some (sz',rows'):=by rfl) (hne:k≠nm:=by decide) (hk10:10≤k:=by decide)
  (hlen:off+len≤rows'.length:=by (simp [-List.getD_eq_getElem?_getD]<;>omega)) (hi:i<l.length:=by (simp<;>omega)):Sub (.mk t h nx) s':=Sub.trans (Sub.foldAt nm f k hk hlen hnm hne hk10 hf hi) hr
theorem F2 (nm f:Nat) {k off:Nat} {t:List (Nat×AV)} {h:yC} {nx sz sz' len:Nat} {rows':List (List AV)} {r:List AV} {s':AS} (hr:Sub (.mk t (del (put h nm (sz,[r.set f (.sl .own sz' (eA off len rows'))])) k) nx) s')
  (hnm:wE h nm=some (sz,[r]):=by rfl) (hf:r[f]?=some (.ns k off len):=by rfl) (hk:wE h k=some (sz',rows'):=by rfl) (hne:k≠nm:=by decide) (hk10:10≤k:=by decide)
  (hlen:off+len≤rows'.length:=by (simp [-List.getD_eq_getElem?_getD]<;>omega)):Sub (.mk t h nx) s':=Sub.trans (Sub.fold1 nm f k hk hlen hnm hne hk10 hf) hr
attribute [go_sem] xa xl xm xF xT xe xk xb xc1 xc2 xc3 xS bI bT xI xD xN xP xQ xX xA yl zl ya za yv zv yI zI yN zN ye ze kr kR kF kX
end Go.Sep

