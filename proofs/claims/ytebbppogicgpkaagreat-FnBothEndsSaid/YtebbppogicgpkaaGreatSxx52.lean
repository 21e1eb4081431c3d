/- Contracts of functions. -/
import Derived.Test.YtebbppogicgpkaaGreatSxx36
import Derived.Test.YtebbppogicgpkaaGreatSxx45
import Derived.Test.YtebbppogicgpkaaGreatSxx51
namespace Go.Sep
set_option maxHeartbeats 16000000
open Go.Proofs
set_option linter.unusedSimpArgs false
set_option linter.unusedVariables false
set_option maxRecDepth 100000
def m441:MFn:=⟨29,[.t 4],kr [xb 2 0,xb 3 1,xo 4 (.mv (.c (.nil)))] (kr [xo 7 (.mkSl [xz] 0 []),xv 5 7] (.seq (kr [xm 8 2 2,xm 9 3 3,xc2 10 50 (.t 8) (.t 9),xN 11 10] (kF 11 [xv 12 5,xv 4 12])) (.seq (kr [xa 13 0 3,xl 14 13,xe 15 14,xI 16 0] (.blk 0 (.loop (kr [bT 17 .lss 16 15] (.seq (kX 17 0) (.seq (.blk 1 (kr [xv 18 16,xv 6 18] (kr [xm 19 2 2,xv 20 6,xc3 21 41 (.t 19) (.t 3) (.t 20),bI 22 .eql 21 0] (.cond 22 (xr [xv 23 5,xv 24 6,xo 25 (.mkSl [xz] 1 [(0,.t 24)]),xA 26 1 8 23 25,xv 5 26]) (.skip))))) (xr [bI 27 .add 16 1,xv 16 27]))))))) (kR [xv 28 5,xv 4 28]))))⟩
theorem Inv.stayFinN {p:wM} {s:wH} (hs:qPk p s) (n:Nat) :∀(k:Nat) {m:qO},Inv p m s→Inv p (qE3 p n k m) s
 | 0,_,h=>h
 | k+1,m,h=>Inv.stayFinN hs n k (m:=lR p (List.range n) (qGu p m)) (Inv.stayFinWho hs _ (Inv.stayRest hs _ 4 h))
theorem Inv.stayFinish {p:wM} {m:qO} {s:wH} (h:Inv p m s) (hs:qPk p s) (r:Int):Inv p (nE p m r).1 s:=by
 unfold nE
 rw [(yO m).2 h.mok,decide_eq_true h.lens.1]
 exact Inv.stayFinN hs _ _ h
def lW (p:wM) (s:wH) (i:Nat):List Int:=((List.range i).filter fun (j:Nat)=>decide (yL p s (j:Int)=0)).map fun (j:Nat)=>(j:Int)
theorem qXq {p:wM} {s:wH} {i:Nat} (h:yL p s (i:Int)=0):lW p s i++[(i:Int)]=lW p s (i+1):=by
 unfold lW
 rw [List.range_succ,List.filter_append]
 simp [h]
theorem qZq {p:wM} {s:wH} {i:Nat} (h :¬yL p s (i:Int)=0):lW p s i=lW p s (i+1):=by
 unfold lW
 rw [List.range_succ,List.filter_append]
 simp [h]
theorem qXr (p:wM) (s:wH) (i:Nat):(lW p s i).length≤i:=by
 unfold lW
 rw [List.length_map]
 have:=List.length_filter_le (fun (j:Nat)=>decide (yL p s (j:Int)=0)) (List.range i)
 simpa using this
theorem qXp {p:wM} {s:wH} (h:(lW p s s.ths.length).length=0):qPk p s:=by
 intro who hc
 obtain ⟨h0,h1⟩:=qHn hc
 obtain ⟨i,rfl⟩:=Int.eq_ofNat_of_zero_le h0
 rw [Int.toNat_natCast] at h1
 have hm:(i:Int)∈lW p s s.ths.length:=by
  unfold lW
  exact List.mem_map.2 ⟨i,List.mem_filter.2 ⟨List.mem_range.2 h1,by simp [hc]⟩,rfl⟩
 have:=List.length_pos_of_mem hm
 omega
theorem qRe (p:wM) (s:wH) (hp:bF p) (hs:qAt s) (h:wX p s=true):qW Tryz.prog num 441 [.agg (jF .bw p),.agg (vW .bw s)] [] (.sl .own 1 (wN (lW p s s.ths.length))):=by
 have hso:=lP p s hp hs
 rw [h] at hso
 have ht:=hs.ths
 refine EN m441 Tryz.func26 ?_
 unfold m441
 simp only [go_sem,seval]
 repeat refine K ?_
 refine CA [] (hso) ?_
 try simp only [go_sem,seval]
 repeat refine K ?_
 try simp only [go_sem,seval]
 repeat refine K ?_
 refine qX (ι:=Nat) (fun i=>.mk [(2,.ptr 10 0 0),(3,.ptr 11 0 0),(5,.ns 12 0 (lW p s i).length),(15,.int .i64 s.ths.length),(16,.int .i64 i)] [(10,2,[jF .bw p]),(11,3,[vW .bw s]),(12,1,wN (lW p s i))] 13) (fun i=>i≤s.ths.length) (fun i=>s.ths.length-i) 0 (by simp) ?_ ?_
 ·refine Sub.shape [] id (by omega) ?_ ?_ ?_ ?_<;>simp [qK]
  all_goals (first | rfl | exact .inl rfl | skip)
 ·intro i hi
  have hal:=qXr p s i
  simp only [go_sem,seval]
  refine qL (fun hc=>?_) (fun hc=>?_)
  ·simp only [decide_eq_true_eq] at hc
   have hi':i<s.ths.length:=by omega
   simp only [go_sem,seval]
   repeat refine K ?_
   refine CA [] (qBo p s i hp hs h) ?_
   try simp only [go_sem,seval]
   repeat refine K ?_
   by_cases h0:yL p s (i:Int)=0
   ·have hy:=qXq h0
    try simp only [go_sem,seval,h0,qFq,qS (i:=i) (by omega)]
    repeat refine K ?_
    refine qT (i+1) ?_ hi' (by omega)
    rw [←hy]
    refine Sub.shape [] (fun n=>if n=12 then 14 else n) (by omega) ?_ ?_ ?_ ?_<;>simp [qK]
   ·have hn:=qZq h0
    try simp only [go_sem,seval,h0,qS (i:=i) (by omega)]
    repeat refine K ?_
    refine qT (i+1) ?_ hi' (by omega)
    rw [←hn]
    refine Sub.shape [] id (by omega) ?_ ?_ ?_ ?_<;>simp [qK]
  ·simp only [decide_eq_false_iff_not] at hc
   have he:i=s.ths.length:=by omega
   subst he
   simp only [go_sem,seval]
   repeat refine K ?_
   refine ⟨_,Sub.refl _,yQ ?_⟩; simp [-List.drop_one]
def m440:MFn:=⟨79,[.t 2],kr [xF 2] (.seq (kr [xv 15 0,xc1 16 19 (.t 15)] (kF 16 [xT 2])) (kr [xv 18 0,xo 19 (.call 439 [true] [.t 18]),xv 17 19,xX 20 17 0,xX 21 17 1,xo 3 (.alloc [.nil,.nil]),xS 2 3 20,xv 4 21] (kr [xm 23 2 3,xv 24 4,xc2 25 407 (.t 23) (.t 24),xv 22 25,xX 26 22 0,xX 27 22 1,xX 28 22 2,xo 6 (.alloc [.nil,.nil,.nil,.nil]),xv 5 26,xS 4 6 27,xv 7 28] (kr [xm 30 2 3,xv 31 4,xc2 32 406 (.t 30) (.t 31),xv 29 32,xX 33 29 0,xX 34 29 1,xX 35 29 2,xo 9 (.alloc [.nil,.nil,.nil,.nil]),xv 8 33,xS 4 9 34,xv 10 35] (.seq (kr [xv 36 7,xv 37 10,xo 38 (.eqB true (.t 36) (.t 37))] (kF 38 [xF 2])) (.seq (kr [xv 39 7,xN 40 39] (kF 40 [xT 2])) (kr [xm 42 2 3,xc1 43 24 (.t 42),xv 41 43,xX 44 41 0,xX 45 41 1,xo 11 (.alloc [.nil,.nil,.nil]),xS 3 11 44,xv 12 45] (kr [xm 47 2 3,xm 48 3 11,xv 49 5,xc3 50 25 (.t 47) (.t 48) (.t 49),xv 46 50,xX 51 46 0,xX 52 46 1,xS 3 11 51] (.seq (kr [xm 53 2 3,xm 54 3 11,xc2 55 441 (.t 53) (.t 54),xe 56 55,bI 57 .gtr 56 0] (kF 57 [xm 58 2 3,xm 59 4 6,xm 60 3 11,xc3 61 395 (.t 58) (.t 59) (.t 60),xv 2 61])) (kr [xm 63 2 3,xm 64 4 6,xc3 65 404 (.t 63) (.t 64) (xi 5),xv 62 65,xX 66 62 0,xX 67 62 1,xo 13 (.alloc [.nil,.nil,.nil,.nil]),xS 4 13 66,xv 14 67] (kR [xa 68 3 13,xl 69 68,xa 70 3 6,xl 71 70,xc2 72 160 (.t 69) (.t 71),xv 73 72,xg 74 (.load 2 true (.t 3)) 73 true,xg 75 (.load 4 true (.t 13)) 73 true,xg 76 (.load 3 true (.t 11)) 73 true,xg 77 (.call 395 [false,false,false] [.t 74,.t 75,.t 76]) 73 true,xP 78 73 77,xv 2 78])))))))))))⟩
theorem qZv (code:List Int):qW Tryz.prog num 440 [.sl .fz 1 (bys code)] [] (.bool true):=by
 refine EN m440 Tryz.func4 ?_
 unfold m440
 simp only [go_sem,seval]
 repeat refine K ?_
 refine CA [] (qU8 code) ?_
 try simp only [go_sem,seval]
 repeat refine K ?_
 by_cases hbig:(1048576:Int)<code.length
 ·try simp only [go_sem,seval,hbig]
  repeat refine K ?_
  refine fz ?_; simp [qZ,qU,qV,qQ,-List.drop_one]
 have hb:code.length<2^62:=by omega
 try simp only [go_sem,seval,hbig]
 repeat refine K ?_
 refine CA [] (qBz code hb) ?_
 try simp only [go_sem,seval]
 repeat refine K ?_
 obtain ⟨hp,hl,hx⟩:=qIu code
 generalize lY code=w at hp hl hx
 obtain ⟨p,l⟩:=w
 simp only at hp hl hx⊢
 have hpp:=qF3 hp
 have cw:=dN p l hpp (by omega) hx
 have cs:=cA p l hpp (by omega) hx
 have hz:=(fZ p l).1
 have hm:=fR p l
 have hn:=@rK p l
 have hI:=@qHe p l
 have hR:=fun h=>@qPs p l h (by omega)
 generalize wQ p l=W at *
 obtain ⟨o,m,b⟩:=W
 simp only at cw cs hz hm hn hI hR
 have eb:(b==b)=true:=by simp
 try simp only [go_sem,seval]
 repeat refine K ?_
 refine CA [] (cw) ?_
 try simp only [go_sem,seval]
 repeat refine K ?_
 try simp only [go_sem,seval]
 repeat refine K ?_
 refine CA [] (cs) ?_
 try simp only [go_sem,seval]
 repeat refine K ?_
 try simp only [go_sem,seval,eb]
 repeat refine K ?_
 cases b
 ·try simp only [go_sem,seval]
  repeat refine K ?_
  refine fz ?_; simp [qZ,qU,qV,qQ,-List.drop_one]
 obtain ⟨h1,h2,h3⟩:=hI rfl
 have hj:eL p (jY p).1 o=qA6 p o:=rfl
 have so0:=eA hp
 have csn:=kE p (by have:=hpp.caps; omega) (by have:=hpp.bods; omega) (fun b hb=>by have:=hpp.body b hb; omega)
 have n1:(jY p).2=true:=by simp [jY,hp]
 have csr:=kD p (jY p).1 o hpp (mS so0) (by omega)
 rw [n1] at csn
 rw [hj] at csr
 clear hj
 generalize qA6 p o=q at *
 obtain ⟨s,c⟩:=q
 simp only at h1 h2 h3 csr
 have hs:=mS h1.src
 generalize (jY p).1=s0 at *
 have hsame:=oA p m s hpp hm hs
 rw [h1.same] at hsame
 have hab:=qRe p s hpp hs h1.src
 try simp only [go_sem,seval]
 repeat refine K ?_
 refine CA [] (csn) ?_
 try simp only [go_sem,seval]
 repeat refine K ?_
 try simp only [go_sem,seval]
 repeat refine K ?_
 refine CA [] (csr) ?_
 try simp only [go_sem,seval]
 repeat refine K ?_
 try simp only [go_sem,seval]
 repeat refine K ?_
 refine CA [] (hab) ?_
 try simp only [go_sem,seval]
 repeat refine K ?_
 by_cases ha:(lW p s s.ths.length).length=0
 ·have hfi:=h1.stayFinish (qXp ha) 5
  have cfi:=qM2 p m 5 hpp hm
  have hfz:=qZb p m 5
  generalize nE p m 5=F at *
  obtain ⟨f,d⟩:=F
  simp only at hfi cfi hfz
  have hfm:iQ f:=qMp (n:=4000000) hfz (by omega)
  have ht:f.tr=m.tr:=by rw [hfi.tr,h1.tr]
  have hsf:=oA p f s hpp hfm hs
  rw [hfi.same] at hsf
  try simp only [go_sem,seval,ha]
  repeat refine K ?_
  refine CA [] (cfi) ?_
  try simp only [go_sem,seval]
  repeat refine K ?_
  try simp only [go_sem,seval]
  repeat refine K ?_
  refine CA [] (qD3 f.tr m.tr (by have:=hfm.tr; omega)) ?_
  try simp only [go_sem,seval]
  repeat refine K ?_
  try simp only [go_sem,seval,ht]
  repeat refine K ?_
  refine CA [] (hsf) ?_
  try simp only [go_sem,seval]
  repeat refine K ?_
  try simp only [go_sem,seval]
  repeat refine K ?_
  refine fz ?_; simp [qZ,qU,qV,qQ,-List.drop_one]
 ·have d1:decide ((0:Int)<((lW p s s.ths.length).length:Int))=true:=by simp; omega
  try simp only [go_sem,seval,d1]
  repeat refine K ?_
  refine CA [] (hsame) ?_
  try simp only [go_sem,seval]
  repeat refine K ?_
  try simp only [go_sem,seval]
  repeat refine K ?_
  refine fz ?_; simp [qZ,qU,qV,qQ,-List.drop_one]
end Go.Sep
