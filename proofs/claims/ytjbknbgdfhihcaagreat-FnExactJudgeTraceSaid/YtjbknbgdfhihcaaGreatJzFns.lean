/- The numbers of the program's functions. -/
import Derived.Test.YtjbknbgdfhihcaaGreatJzRead
import Derived.Test.YtjbknbgdfhihcaaGreatProg
namespace Go.Sep
set_option maxHeartbeats 16000000
open Go.Proofs
set_option maxRecDepth 100000
def nums:List Nat:=[0,0,1,2,0,82,0,0,19,0,0,0,0,0,0,0,23,25,0,0,0,0,0,0,191,192,0,26,28,0,30,31,0,0,180,78,135,0,0,0,0,258,0,231,220,189,229,0,97,230,98,79,83,86,87,0,0,0,0,136,259,260,90,91,55,228,256,176,177,134,257,138,178,154,159,164,165,0,142,264,265,266,168,169,255,113,262,263,219,217,226,0,209,267,268,269,245,246,234,270,271,272,273,274,275,276,277,278,279,280,281,282,283,284,285,132,60,52,149,68,73,77,174,95,166,88,181,102,0,0,175,96,167,89,182,103,0,0,34,32,36,0,0,0,0,190,0,111,0,0,0,0,0,0,0,0,0,0,0,0,0,0,80,84,65,70,74,0,0,0,0,0,12,15,93,100,18,0,0,0,0,0,0,0,0,0,0,0,0,0,0,0,0,0,0,0,0,0,0,0,0,0,155,156,157,126,160,161,162,139,146,150,152,0,0,0,0,0,0,0,0,49,50,51,170,171,57,58,59,141,179,66,67,54,115,63,188,0,0,0,0,0,0,0,0,0,0,0,0,0,0,207,208,210,211,212,213,172,214,215,216,194,218,221,222,223,224,225,199,203,0,0,0,0,119,120,121,129,130,131,227,147,148,125,127,187,137,140,0,0,0,0,0,0,0,0,240,241,242,243,244,233,247,248,249,250,251,252,253,254,237,200,0,0,0,0,0,0,0,0,0,193,197,198,204,0,0,0,0,0,0,0,261,0,0,0,0,0,0,0,0,232,236,239,0,0,114,0,61,0,0,21,24,0,0,0,53,56,62,64,71,72,75,76,112,128,133,143,144,145,151,153,122,123,124,195,196,201,202,205,206,235,238,3,13,16,14,17,20,22,4,27,29,5,33,35,6,37,38,7,39,40,8,41,42,9,43,44,10,45,46,11,47,48,69,81,85,92,94,99,101,104,105,106,107,108,109,110,116,117,118,158,163,173,183,184,185,186]
def num (n:Nat):Nat:=nums.getD n 0
theorem EN (m:MFn) {f:Nat} {fn:Go.Func} {args:List AV} {res:AV} (hf:Tryz.prog.funcs[num f]?=some fn)
  (hv:vc Tryz.prog num (Fin m.results [] res) [.code m.body] (.mk (paramT 0 args) (preH []) 10)) (hc:chkC Tryz.prog num fn.ntmps m.body ((fn.body).getD .skip)=true:=by kernel_rfl) (hn:Nat.ble args.length fn.ntmps=true:=by kernel_rfl) (hnm:(fn.name == "runtime.NumGoroutine")=false:=by kernel_rfl) (hbd:fn.body=some ((fn.body).getD .skip):=by rfl)
  (hr:chkRes Tryz.prog fn.results.toList m.results=true:=by rfl) (hb:bnds (· < 10) args:=by simp [bnds,bnd,nf_sl,nf_int,nf_bool,nf_str,qAo]):CallOk Tryz.prog num f args [] res :=
 enter hf hnm hbd hc hr (Nat.le_of_ble_eq_true hn) hb (fun _ _ h=>by simp [preH,look] at h) hv
theorem EH (m:MFn) {f:Nat} {fn:Go.Func} {args:List AV} {fp:FP} {res:AV} (hf:Tryz.prog.funcs[num f]?=some fn)
  (hv:vc Tryz.prog num (Fin m.results fp res) [.code m.body] (.mk (paramT 0 args) (preH fp) 10)) (hc:chkC Tryz.prog num fn.ntmps m.body ((fn.body).getD .skip)=true:=by kernel_rfl) (hn:Nat.ble args.length fn.ntmps=true:=by kernel_rfl) (hnm:(fn.name == "runtime.NumGoroutine")=false:=by kernel_rfl) (hbd:fn.body=some ((fn.body).getD .skip):=by rfl)
  (hr:chkRes Tryz.prog fn.results.toList m.results=true:=by rfl) (hb:bnds (· < 10) args:=by simp [bnds,bnd,nf_sl,nf_int,nf_bool,nf_str,qAo])
  (hh:HB (preH fp) 10:=by first | (simp [preH,hb_nil,qBd,qAo]; done) | exact qBd _ _ _ _ ((hb_nil _).2 trivial) (by decide) (by simp [qAo,bndr,bnds,bnd])):CallOk Tryz.prog num f args fp res :=
 enter hf hnm hbd hc hr (Nat.le_of_ble_eq_true hn) hb hh hv
theorem fz {rs:List MRes} {fp:FP} {v:AV} {s:AS} (h:FinS rs fp v s):Fin rs fp v s:=⟨_,Sub.refl _,h⟩
def xa (d f n:Nat):MOper:=⟨some d,.fad f (.t n),none⟩
def xl (d n:Nat):MOper:=⟨some d,.load 1 false (.t n),none⟩
def xm (d n k:Nat):MOper:=⟨some d,.load n true (.t k),none⟩
def xF (d:Nat):MOper:=⟨some d,.mv (.c (.bool false)),none⟩
def xT (d:Nat):MOper:=⟨some d,.mv (.c (.bool true)),none⟩
def xe (d k:Nat):MOper:=⟨some d,.len (.t k),none⟩
def xk (d k:Nat):MOper:=⟨some d,.nilck (.t k),none⟩
def xb (d k:Nat):MOper:=⟨some d,.box (.t k),none⟩
def xc1 (d f:Nat) (a:Arg):MOper:=⟨some d,.call f [false] [a],none⟩
def xc2 (d f:Nat) (a b:Arg):MOper:=⟨some d,.call f [false,false] [a,b],none⟩
def xc3 (d f:Nat) (a b c:Arg):MOper:=⟨some d,.call f [false,false,false] [a,b,c],none⟩
def xS (a b c:Nat):MOper:=⟨none,.store a (.t b) (.t c),none⟩
def bI (d:Nat) (o:BinOp) (a:Nat) (n:Int):MOper:=⟨some d,.bin o (.t a) (.c (.int .i64 n)),none⟩
def bT (d:Nat) (o:BinOp) (a b:Nat):MOper:=⟨some d,.bin o (.t a) (.t b),none⟩
def xI (d:Nat) (n:Int):MOper:=⟨some d,.mv (.c (.int .i64 n)),none⟩
def xD (d s a b:Nat):MOper:=⟨some d,.iad s (.t a) (.t b),none⟩
def xN (d a:Nat):MOper:=⟨some d,.un .«not» (.t a),none⟩
def xP (d a b:Nat):MOper:=⟨some d,.pick (.t a) (.t b) (.c (.bool false)),none⟩
def xQ (d a b:Nat):MOper:=⟨some d,.pick (.t a) (.c (.bool true)) (.t b),none⟩
def xX (d a k:Nat):MOper:=⟨some d,.ext (.t a) k,none⟩
def xA (d s b p q:Nat):MOper:=⟨some d,.app s b (.t p) (.t q),none⟩
def yl (d n a g:Nat):MOper:=⟨some d,.load n false (.t a),some (g,true)⟩
def zl (d n a g:Nat):MOper:=⟨some d,.load n false (.t a),some (g,false)⟩
def ya (d f a g:Nat):MOper:=⟨some d,.fad f (.t a),some (g,true)⟩
def za (d f a g:Nat):MOper:=⟨some d,.fad f (.t a),some (g,false)⟩
def yv (d a g:Nat):MOper:=⟨some d,.mv (.t a),some (g,true)⟩
def zv (d a g:Nat):MOper:=⟨some d,.mv (.t a),some (g,false)⟩
def yI (d:Nat) (o:BinOp) (a:Nat) (n:Int) (g:Nat):MOper:=⟨some d,.bin o (.t a) (.c (.int .i64 n)),some (g,true)⟩
def zI (d:Nat) (o:BinOp) (a:Nat) (n:Int) (g:Nat):MOper:=⟨some d,.bin o (.t a) (.c (.int .i64 n)),some (g,false)⟩
def yN (d a g:Nat):MOper:=⟨some d,.un .«not» (.t a),some (g,true)⟩
def zN (d a g:Nat):MOper:=⟨some d,.un .«not» (.t a),some (g,false)⟩
def ye (d a g:Nat):MOper:=⟨some d,.len (.t a),some (g,true)⟩
def ze (d a g:Nat):MOper:=⟨some d,.len (.t a),some (g,false)⟩
def kr (L:List MOper) (k:MCode):MCode:=.seq (.reg false L) k
def kR (L:List MOper):MCode:=.seq (.reg false L) .ret
def kF (n:Nat) (L:List MOper):MCode:=.cond n (.seq (.reg false L) .ret) .skip
def kX (n e:Nat):MCode:=.cond n .skip (.exit e)
theorem FB (nm f:Nat) {k off i:Nat} {t:List (Nat×AV)} {h:Heap} {nx sz sz' len:Nat} {l rows':List (List AV)} {r:List AV} {s':AS} (hr:Sub (.mk t (del (put h nm (sz,l.set i (r.set f (.sl .own sz' (partR off len rows'))))) k) nx) s')
  (hnm:look h nm=some (sz,l.set i r):=by rfl) (hf:r[f]?=some (.ns k off len):=by rfl) (hk:look h k=some (sz',rows'):=by rfl) (hne:k≠nm:=by decide) (hk10:10≤k:=by decide)
  (hlen:off+len≤rows'.length:=by (simp [-List.getD_eq_getElem?_getD]<;>omega)) (hi:i<l.length:=by (simp<;>omega)):Sub (.mk t h nx) s':=Sub.trans (Sub.foldAt nm f k hk hlen hnm hne hk10 hf hi) hr
theorem F2 (nm f:Nat) {k off:Nat} {t:List (Nat×AV)} {h:Heap} {nx sz sz' len:Nat} {rows':List (List AV)} {r:List AV} {s':AS} (hr:Sub (.mk t (del (put h nm (sz,[r.set f (.sl .own sz' (partR off len rows'))])) k) nx) s')
  (hnm:look h nm=some (sz,[r]):=by rfl) (hf:r[f]?=some (.ns k off len):=by rfl) (hk:look h k=some (sz',rows'):=by rfl) (hne:k≠nm:=by decide) (hk10:10≤k:=by decide)
  (hlen:off+len≤rows'.length:=by (simp [-List.getD_eq_getElem?_getD]<;>omega)):Sub (.mk t h nx) s':=Sub.trans (Sub.fold1 nm f k hk hlen hnm hne hk10 hf) hr
attribute [go_sem] xa xl xm xF xT xe xk xb xc1 xc2 xc3 xS bI bT xI xD xN xP xQ xX xA yl zl ya za yv zv yI zI yN zN ye ze kr kR kF kX
end Go.Sep
