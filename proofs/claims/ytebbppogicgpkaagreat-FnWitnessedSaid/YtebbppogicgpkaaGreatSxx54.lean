/- Contracts of functions. -/
import Derived.Test.YtebbppogicgpkaaGreatSxx48
import Derived.Test.YtebbppogicgpkaaGreatSxx51
namespace Go.Sep
set_option maxHeartbeats 16000000
open Go.Proofs
set_option linter.unusedSimpArgs false
set_option linter.unusedVariables false
set_option maxRecDepth 100000
open Nat renaming reduceAdd → qA, reduceMul → qB, reduceEqDiff → qC, reduceBEq → qD
open Int renaming reduceToNat → qE, reduceEq → qF, reduceLT → qG, reduceLE → qH
open List renaming getD_eq_getElem?_getD → gD
def m446:MFn:=⟨117,[.t 2],kr [xF 2] (.seq (kr [xv 15 0,xc1 16 19 (.t 15)] (kF 16 [xT 2])) (kr [xv 18 0,xo 19 (.call 447 [true] [.t 18]),xv 17 19,xX 20 17 0,xX 21 17 1,xo 3 (.alloc [.nil,.nil]),xS 2 3 20,xv 4 21] (kr [xm 23 2 3,xv 24 4,xc2 25 407 (.t 23) (.t 24),xv 22 25,xX 26 22 0,xX 27 22 1,xX 28 22 2,xo 6 (.alloc [.nil,.nil,.nil,.nil]),xv 5 26,xS 4 6 27,xv 7 28] (kr [xm 30 2 3,xv 31 4,xc2 32 406 (.t 30) (.t 31),xv 29 32,xX 33 29 0,xX 34 29 1,xX 35 29 2,xo 9 (.alloc [.nil,.nil,.nil,.nil]),xv 8 33,xS 4 9 34,xv 10 35] (.seq (kr [xv 36 7,xv 37 10,xo 38 (.eqB true (.t 36) (.t 37)),xv 39 38,zv 40 5 39,zv 41 8 39,xg 42 (.call 23 [false,false] [.t 40,.t 41]) 39 false,zN 43 42 39,xQ 44 39 43,xv 45 44,xg 46 (.load 4 true (.t 6)) 45 false,xg 47 (.load 4 true (.t 9)) 45 false,xg 48 (.call 448 [false,false] [.t 46,.t 47]) 45 false,zN 49 48 45,xQ 50 45 49] (kF 50 [xF 2])) (.seq (kr [xv 51 7,xN 52 51] (kF 52 [xv 53 5,xe 54 53,bI 55 .eql 54 0,xv 56 55,ya 57 1 6 56,yl 58 1 57 56,ye 59 58 56,yI 60 .eql 59 0 56,xP 61 56 60,xv 2 61])) (.seq (.dreg (.take 0 (xm 63 2 3) (.take 1 (xv 64 4) (.take 2 (xv 65 0) (.take 4 (xv 67 4) (.take 5 (xe 68 67) (.take 6 (bI 69 .add 68 1) (.both 3 [2] (xc2 66 184 (.t 65) (xi 1)) (.take 7 (bT 70 .rem 66 69) (.take 8 (xo 71 (.cut 2 (.t 64) none (some (.t 70)))) (.both 9 [0,3,8,2,1,7,6,5,4] (xc2 72 407 (.t 63) (.t 71)) (.take 10 (xv 62 72) (.take 11 (xX 73 62 0) (.take 12 (xX 74 62 1) (.take 13 (xX 75 62 2) (.only 14 [] (xo 12 (.alloc [.nil,.nil,.nil,.nil])) (.only 15 [0,1,2,4,5,6,7,8,10,11] (xv 11 73) (.only 16 [0,1,2,4,5,6,7,8,10,11,12] (xS 4 12 74) (.only 17 [0,1,2,4,5,6,7,8,10,11,12,13] (xv 13 75) (.done))))))))) 14 [] (xo 12 (.alloc [.nil,.nil,.nil,.nil])) (.only 9 [0,3,8,2,1,7,6,5,4] (xc2 72 407 (.t 63) (.t 71)) (.only 10 [9,0,3,8,2,1,7,6,5,4] (xv 62 72) (.take 11 (xX 73 62 0) (.take 12 (xX 74 62 1) (.take 13 (xX 75 62 2) (.only 15 [0,1,2,4,5,6,7,8,11] (xv 11 73) (.only 16 [0,1,2,4,5,6,7,8,11,12] (xS 4 12 74) (.only 17 [0,1,2,4,5,6,7,8,11,12,13] (xv 13 75) (.done)))))))))))) 14 [] (xo 12 (.alloc [.nil,.nil,.nil,.nil])) (.only 3 [2] (xc2 66 184 (.t 65) (xi 1)) (.only 7 [3,6,2,5,4] (bT 70 .rem 66 69) (.only 8 [1,7,3,6,2,5,4] (xo 71 (.cut 2 (.t 64) none (some (.t 70)))) (.only 9 [0,3,8,2,1,7,6,5,4] (xc2 72 407 (.t 63) (.t 71)) (.only 10 [9,0,3,8,2,1,7,6,5,4] (xv 62 72) (.take 11 (xX 73 62 0) (.take 12 (xX 74 62 1) (.take 13 (xX 75 62 2) (.only 15 [0,1,2,4,5,6,11] (xv 11 73) (.only 16 [0,1,2,4,5,6,11,12] (xS 4 12 74) (.only 17 [0,1,2,4,5,6,11,12,13] (xv 13 75) (.done)))))))))))))))))))) (.seq (kr [xv 76 13,xN 77 76,xv 78 77,zv 79 11 78,ze 80 79 78,zv 81 5 78,ze 82 81 78,xg 83 (.bin .gtr (.t 80) (.t 82)) 78 false,xQ 84 78 83,xv 85 84,zv 86 5 85,zv 87 11 85,ze 88 87 85,xg 89 (.cut 1 (.t 86) none (some (.t 88))) 85 false,zv 90 11 85,xg 91 (.call 23 [false,false] [.t 89,.t 90]) 85 false,zN 92 91 85,xQ 93 85 92] (kF 93 [xF 2])) (.seq (kr [xI 14 0] (.blk 0 (.loop (.seq (kr [xv 94 14,xv 95 5,xe 96 95,bT 97 .lss 94 96] (kX 97 0)) (.seq (.blk 1 (.seq (.dreg (.take 0 (xv 100 5) (.only 1 [] (xv 101 14) (.only 2 [0] (xD 102 1 100 101) (.only 3 [2,0] (xl 103 102) (.only 4 [3,2,0] (bI 104 .lss 103 0) (.only 5 [4,3,2,0] (xv 105 104) (.take 6 (zv 106 5 105) (.take 7 (zv 107 14 105) (.take 8 (xg 108 (.iad 1 (.t 106) (.t 107)) 105 false) (.take 9 (zl 109 1 108 105) (.only 10 [5,4,3,2,0] (za 110 1 3 105) (.only 11 [5,4,3,2,0] (zl 111 1 110 105) (.only 12 [5,4,3,2,0] (ze 112 111 105) (.only 13 [5,9,4,8,3,6,7,2,0] (xg 113 (.bin .geq (.t 109) (.t 112)) 105 false) (.only 14 [5,13,4,9,3,8,2,6,7,0] (xQ 114 105 113) (.done))))))))))))))))) (kF 114 [xF 2]))) (xr [xv 98 14,bI 99 .add 98 1,xv 14 99])))))) (kR [xm 115 4 6,xc1 116 235 (.t 115),xv 2 116]))))))))))⟩
def m448:MFn:=⟨129,[.t 4],kr [xb 2 0,xb 3 1,xF 4] (.seq (kr [xa 11 1 2,xl 12 11,xe 13 12,xa 14 1 3,xl 15 14,xe 16 15,bT 17 .neq 13 16,xv 18 17,za 19 3 2 18,zl 20 1 19 18,za 21 3 3 18,zl 22 1 21 18,xg 23 (.call 160 [false,false] [.t 20,.t 22]) 18 false,zN 24 23 18,xQ 25 18 24,xv 26 25,za 27 2 2 26,za 28 0 27 26,zl 29 1 28 26,ze 30 29 26,za 31 2 3 26,za 32 0 31 26,zl 33 1 32 26,ze 34 33 26,xg 35 (.bin .neq (.t 30) (.t 34)) 26 false,xQ 36 26 35] (kF 36 [xF 4])) (.seq (kr [xI 5 0] (.blk 0 (.loop (.seq (kr [xv 37 5,xa 38 1 2,xl 39 38,xe 40 39,bT 41 .lss 37 40] (kX 41 0)) (.seq (.blk 1 (.seq (.dreg (.take 0 (xa 44 1 2) (.take 1 (xl 45 44) (.take 2 (xv 46 5) (.take 3 (xD 47 4 45 46) (.take 4 (xm 48 4 47) (.take 5 (xa 49 1 3) (.take 6 (xl 50 49) (.take 7 (xv 51 5) (.take 8 (xD 52 4 50 51) (.take 9 (xm 53 4 52) (.both 10 [] (xo 6 (.alloc [.int .i64 0,.nil,.nil,.int .i64 0])) (.only 11 [] (xo 7 (.alloc [.int .i64 0,.nil,.nil,.int .i64 0])) (.only 12 [0,1,2,3,4] (xS 4 6 48) (.only 13 [0,1,2,3,4,5,6,7,8,9] (xS 4 7 53) (.done)))) 11 [] (xo 7 (.alloc [.int .i64 0,.nil,.nil,.int .i64 0])) (.only 10 [] (xo 6 (.alloc [.int .i64 0,.nil,.nil,.int .i64 0])) (.only 12 [0,1,2,3,4] (xS 4 6 48) (.only 13 [0,1,2,3,4,5,6,7,8,9] (xS 4 7 53) (.done)))))))))))))))) (kr [xa 54 0 6,xl 55 54,xa 56 0 7,xl 57 56,bT 58 .neq 55 57,xv 59 58,za 60 3 6 59,zl 61 1 60 59,za 62 3 7 59,zl 63 1 62 59,xg 64 (.bin .neq (.t 61) (.t 63)) 59 false,xQ 65 59 64,xv 66 65,za 67 1 6 66,zl 68 1 67 66,za 69 1 7 66,zl 70 1 69 66,xg 71 (.call 23 [false,false] [.t 68,.t 70]) 66 false,zN 72 71 66,xQ 73 66 72,xv 74 73,za 75 2 6 74,zl 76 1 75 74,za 77 2 7 74,zl 78 1 77 74,xg 79 (.call 23 [false,false] [.t 76,.t 78]) 74 false,zN 80 79 74,xQ 81 74 80] (kF 81 [xF 4])))) (xr [xv 42 5,bI 43 .add 42 1,xv 5 43])))))) (.seq (kr [xI 8 0] (.blk 2 (.loop (.seq (kr [xv 82 8,xa 83 2 2,xa 84 0 83,xl 85 84,xe 86 85,bT 87 .lss 82 86] (kX 87 2)) (.seq (.blk 3 (.seq (.dreg (.take 0 (xa 90 2 2) (.take 1 (xa 91 0 90) (.take 2 (xl 92 91) (.take 3 (xv 93 8) (.take 4 (xD 94 1 92 93) (.take 5 (xl 95 94) (.take 6 (xa 96 2 3) (.take 7 (xa 97 0 96) (.take 8 (xl 98 97) (.take 9 (xv 99 8) (.take 10 (xD 100 1 98 99) (.take 11 (xl 101 100) (.only 12 [0,1,2,3,4,5] (xv 9 95) (.only 13 [0,1,2,3,4,5,6,7,8,9,10,11] (xv 10 101) (.done)))))))))))))))) (.seq (.dreg (.take 0 (xv 102 9) (.take 1 (xe 103 102) (.only 2 [] (xv 104 10) (.only 3 [] (xe 105 104) (.only 4 [1,0] (bT 106 .neq 103 105) (.only 5 [4,1,0] (xv 107 106) (.only 6 [5,4,1,0] (zv 108 9 107) (.only 7 [5,4,1,0] (ze 109 108 107) (.only 8 [5,4,1,0] (zI 110 .gtr 109 0 107) (.only 9 [5,4,1,0] (zv 111 110 107) (.take 10 (yv 112 9 111) (.take 11 (yv 113 9 111) (.take 12 (ye 114 113 111) (.take 13 (yI 115 .sub 114 1 111) (.take 14 (xg 116 (.iad 2 (.t 112) (.t 115)) 111 true) (.take 15 (ya 117 0 116 111) (.take 16 (yl 118 1 117 111) (.take 17 (yv 119 10 111) (.only 18 [9,5,4,1,0] (yv 120 10 111) (.only 19 [9,5,4,1,0] (ye 121 120 111) (.only 20 [9,5,4,1,0] (yI 122 .sub 121 1 111) (.only 21 [9,17,5,4,1,0] (xg 123 (.iad 2 (.t 119) (.t 122)) 111 true) (.only 22 [9,21,5,17,4,1,0] (ya 124 0 123 111) (.only 23 [9,22,5,21,4,17,1,0] (yl 125 1 124 111) (.only 24 [9,16,23,5,15,22,4,14,21,1,10,13,17,0,12,11] (xg 126 (.bin .neq (.t 118) (.t 125)) 111 true) (.only 25 [5,24,4,16,23,1,15,22,0,14,21,10,13,17,12,11] (xg 127 (.pick (.t 111) (.t 126) (.c (.bool false))) 107 false) (.only 26 [5,25,4,24,1,16,23,0,15,22,14,21,10,13,17,12,11] (xQ 128 107 127) (.done))))))))))))))))))))))))))))) (kF 128 [xF 4])))) (xr [xv 88 8,bI 89 .add 88 1,xv 8 89])))))) (kR [xT 4]))))⟩
theorem qIe (m:qO) (hm:iQ m):qW Tryz.prog num 448 [.agg (qR .bw m),.agg (qR .bw m)] [] (.bool true):=by
 have hcl:=hm.cores
 have hme:=hm.mem
 refine EN m448 Tryz.func35 ?_
 unfold m448
 simp only [go_sem,seval]
 repeat refine K ?_
 refine CA [] (qD3 m.tr m.tr (by have:=hm.tr; omega)) ?_
 try simp only [go_sem,seval]
 repeat refine K ?_
 try simp only [go_sem,seval]
 repeat refine K ?_
 refine qX (ι:=Nat) (fun i=>.mk [(2,.ptr 10 0 0),(3,.ptr 11 0 0),(5,.int .i64 i)] [(10,4,[qR .bw m]),(11,4,[qR .bw m])] 12) (fun i=>i≤m.cores.length) (fun i=>m.cores.length-i) 0 (by simp) ?_ ?_
 ·refine Sub.shape [] id (by omega) ?_ ?_ ?_ ?_<;>simp [qK]
 ·intro i hi
  by_cases hc:i<m.cores.length
  ·have d1:decide ((i:Int)<(m.cores.length:Int))=true:=by simp; omega
   have hg:=jR .bw m.cores i hc
   have hr:=hm.regs _ (wU m.cores i default hc)
   have hv:=hm.views _ (wU m.cores i default hc)
   simp only [go_sem,seval,d1,hg]
   repeat refine K ?_
   refine ⟨?_,?_⟩
   all_goals
    repeat refine K ?_
    try simp only [go_sem,seval]
    repeat refine K ?_
    refine CA [] (cC (m.cores.getD i default).regs (m.cores.getD i default).regs (by omega)) ?_
    try simp only [go_sem,seval]
    repeat refine K ?_
    try simp only [go_sem,seval]
    repeat refine K ?_
    refine CA [] (cC (m.cores.getD i default).view (m.cores.getD i default).view (by omega)) ?_
    try simp only [go_sem,seval]
    repeat refine K ?_
    try simp only [go_sem,seval,qS (i:=i) (by omega)]
    repeat refine K ?_
    refine qT (i+1) (Sub.shape [] id (by omega) ?_ ?_ ?_ ?_) ?_ ?_
    any_goals (first | omega | (simp [qK]; done))
  ·have d1:decide ((i:Int)<(m.cores.length:Int))=false:=by simp; omega
   simp only [go_sem,seval,d1]
   repeat refine K ?_
   refine qX (ι:=Nat) (fun i=>.mk [(2,.ptr 10 0 0),(3,.ptr 11 0 0),(8,.int .i64 i)] [(10,4,[qR .bw m]),(11,4,[qR .bw m])] 12) (fun i=>i≤m.mem.cells.length) (fun i=>m.mem.cells.length-i) 0 (by simp) ?_ ?_
   ·refine Sub.shape [] id (by omega) ?_ ?_ ?_ ?_<;>simp [qK]
   ·intro j hj
    have hml:=hme.len
    by_cases hc2:j<m.mem.cells.length
    ·have d2:decide ((j:Int)<(m.mem.cells.length:Int))=true:=by simp; omega
     have hg:=vE .bw m.mem.cells j hc2
     have hcj:=hme.cell _ (wU m.mem.cells j [] hc2)
     generalize m.mem.cells.getD j []=ws at hg hcj
     by_cases hw:ws.length=0
     ·have d3:decide ((0:Int)<(ws.length:Int))=false:=decide_eq_false (by omega)
      simp only [go_sem,seval,d2,hg,d3,qS (i:=j) (by omega)]
      repeat refine K ?_
      refine qT (j+1) (Sub.shape [] id (by omega) ?_ ?_ ?_ ?_) ?_ ?_
      any_goals (first | omega | (simp [qK]; done))
     ·have d3:decide ((0:Int)<(ws.length:Int))=true:=decide_eq_true (by omega)
      obtain ⟨k,hk⟩ :∃k,ws.length=k+1:=⟨ws.length-1,by omega⟩
      have w1:IntKind.i64.wrap ((ws.length:Int)-1)=(k:Int):=by
       have e:(ws.length:Int)-1=(k:Int):=by omega
       rw [e]
       exact wJ (by omega) (by omega)
      have hgw:=eY .bw ws k (by omega)
      simp only [go_sem,seval,d2,hg,d3,w1,hgw,qS (i:=j) (by omega)]
      repeat refine K ?_
      refine qT (j+1) (Sub.shape [] id (by omega) ?_ ?_ ?_ ?_) ?_ ?_
      any_goals (first | omega | (simp [qK]; done))
    ·have d2:decide ((j:Int)<(m.mem.cells.length:Int))=false:=by simp; omega
     simp only [go_sem,seval,d2]
     repeat refine K ?_
     refine fz ?_; simp [qZ,qU,qV,qQ,-List.drop_one]
theorem qPr {p:wM} {l:List vD} (h:(wQ p l).2.2=true) :∀w∈(wQ p l).1,0≤w∧w<p.bods.length:=by
 obtain ⟨h1,h2,h3,h4,h5,h6⟩:=fK h
 have e1:(wQ p l).1=vH p (launch p).1 l:=by rw [h5]
 have hc:=(Inv.launch h4).lens.1
 intro w hw
 rw [e1] at hw
 have:=qMd p _ l w hw
 omega
theorem qZ9 (code:List Int) (hby :∀x∈code,qFp x):qW Tryz.prog num 446 [.sl .fz 1 (bys code)] [] (.bool true):=by
 refine EN m446 Tryz.func7 ?_
 unfold m446
 simp only [go_sem,seval]
 repeat refine K ?_
 refine CA [] (qU8 code) ?_
 try simp only [go_sem,seval]
 repeat refine K ?_
 by_cases hbig:(1048576:Int)<code.length
 ·try simp only [go_sem,seval,hbig]
  repeat refine K ?_
  refine fz ?_; simp [qZ,qU,qV,qQ,-List.drop_one]
 have hb:code.length<2^62:=by omega
 try simp only [go_sem,seval,hbig]
 repeat refine K ?_
 refine CA [] (qKi code hb) ?_
 try simp only [go_sem,seval]
 repeat refine K ?_
 obtain ⟨hpp,hl,hx⟩:=wAo code
 generalize qMc code=w at hpp hl hx
 obtain ⟨p,l⟩:=w
 simp only at hpp hl hx⊢
 have cw:=dN p l hpp (by omega) hx
 have cs:=cA p l hpp (by omega) hx
 have hz:=(fZ p l).1
 have hm:=fR p l
 have hn:=@rK p l
 have hr:=@fK p l
 have hin:=@qPr p l
 have ha:=wAn code 1 hby
 have hk0:0≤Int.tmod (atF code 1) ((l.length:Int)+1):=Int.tmod_nonneg _ ha.1
 have hk1:Int.tmod (atF code 1) ((l.length:Int)+1)<(l.length:Int)+1:=Int.tmod_lt_of_pos _ (by omega)
 have w1:IntKind.i64.wrap ((l.length:Int)+1)=(l.length:Int)+1:=wJ (by omega) (by omega)
 have w3:IntKind.i64.wrap (Int.tmod (atF code 1) ((l.length:Int)+1))=Int.tmod (atF code 1) ((l.length:Int)+1):=wJ (by omega) (by omega)
 obtain ⟨k,hk⟩:=Int.eq_ofNat_of_zero_le hk0
 rw [hk] at hk1 w3
 have w2:IntKind.i64.wrap (Int.tmod (atF code 1) ((l.length:Int)+1))=(k:Int):=by rw [hk]; exact w3
 clear w3
 have p1:(if l.length=k then uZ l else uZ (l.take k))=uZ (l.take k):=by
  split
  ·rename_i h
   rw [←h,List.take_length]
  ·rfl
 have hkl:k≤l.length:=by omega
 have ck:=dN p (l.take k) hpp (by rw [List.length_take]; omega) (fun x hx2=>hx x (List.mem_of_mem_take hx2))
 have hwp:=fun h=>@qNx p l h k
 generalize wQ p (l.take k)=V at *
 obtain ⟨o',m',b'⟩:=V
 generalize wQ p l=W at *
 obtain ⟨o,m,b⟩:=W
 simp only at cw cs ck hz hm hn hr hin hwp
 have eb:(b==b)=true:=by simp
 try simp only [go_sem,seval]
 repeat refine K ?_
 refine CA [] (cw) ?_
 try simp only [go_sem,seval]
 repeat refine K ?_
 try simp only [go_sem,seval]
 repeat refine K ?_
 refine CA [] (cs) ?_
 try simp only [go_sem,seval]
 repeat refine K ?_
 try simp only [go_sem,seval,eb]
 repeat refine K ?_
 refine CA [] (cC o o (by omega)) ?_
 try simp only [go_sem,seval]
 repeat refine K ?_
 try simp only [go_sem,seval]
 repeat refine K ?_
 refine CA [] (qIe m hm) ?_
 try simp only [go_sem,seval]
 repeat refine K ?_
 cases b
 ·obtain ⟨n1,n2⟩:=hn rfl
  have he:m.cores.length=0:=by rw [n2]; rfl
  have he2:o.length=0:=by rw [n1]; rfl
  try simp only [go_sem,seval,he,he2]
  repeat refine K ?_
  refine fz ?_; simp [qZ,qU,qV,qQ,-List.drop_one]
 obtain ⟨v1,v2,v3⟩:=hwp rfl
 subst v1
 have hmo:=cQ m hm
 rw [(hr rfl).2.2.1] at hmo
 have hi2:=hin rfl
 have hbl:=hpp.bods
 try simp only [go_sem,seval,w1,w2,p1]
 repeat refine K ?_
 have v4:decide ((o.length:Int)<(o'.length:Int))=false:=decide_eq_false (by omega)
 have p3:(if o.length=o'.length then wN o else wN (o.take o'.length))=wN o':=by
  rw [v3]
  split
  ·rename_i h
   rw [←v3,←h,List.take_length]
  ·rfl
 refine ⟨?_,?_⟩
 ·repeat refine K ?_
  refine DA [] (wAz code 1 hb (by omega) hby) ?_
  try simp only [go_sem,seval]
  repeat refine K ?_
  try simp only [go_sem,seval,w1,w2,p1]
  repeat refine K ?_
  refine ⟨?_,?_⟩
  all_goals
   repeat refine K ?_
   try simp only [go_sem,seval]
   repeat refine K ?_
   refine DA [] (ck) ?_
   try simp only [go_sem,seval]
   repeat refine K ?_
   try simp only [go_sem,seval,v4,p3]
   repeat refine K ?_
   refine CA [] (cC o' o' (by omega)) ?_
   try simp only [go_sem,seval]
   repeat refine K ?_
   try simp only [go_sem,seval]
   repeat refine K ?_
   refine qX (ι:=Nat) (fun i=>.mk [(3,.ptr 13 0 0),(5,.ns 14 0 o.length),(6,.ptr 19 0 0),(14,.int .i64 i)] [(13,2,[jF .own p]),(14,1,wN o),(19,4,[qR .own m])] 26) (fun i=>i≤o.length) (fun i=>o.length-i) 0 (by simp) ?_ ?_
   ·refine Sub.trans (Sub.fold1 13 0 10 rfl (by simp [-gD]<;>omega) rfl (by decide) (by decide) rfl) ?_
    simp only [fS,fS2,qA,qC]
    refine Sub.trans (Sub.fold1 13 1 11 rfl (by simp [-gD]<;>omega) rfl (by decide) (by decide) rfl) ?_
    simp only [fS,fS2,qA,qC]
    refine Sub.trans (Sub.fold1 19 0 15 rfl (by simp [-gD]<;>omega) rfl (by decide) (by decide) rfl) ?_
    simp only [fS,fS2,qA,qC]
    refine Sub.trans (Sub.fold1 19 1 16 rfl (by simp [-gD]<;>omega) rfl (by decide) (by decide) rfl) ?_
    simp only [fS,fS2,qA,qC]
    refine Sub.trans (Sub.fold1 19 2 17 rfl (by simp [-gD]<;>omega) rfl (by decide) (by decide) rfl) ?_
    simp only [fS,fS2,qA,qC]
    refine Sub.trans (Sub.fold1 19 3 18 rfl (by simp [-gD]<;>omega) rfl (by decide) (by decide) rfl) ?_
    simp only [fS,fS2,qA,qC]
    refine Sub.shape [] id (by omega) ?_ ?_ ?_ ?_<;>simp [qK]
   ·intro i hi
    simp only [go_sem,seval]
    refine qL (fun hc=>?_) (fun hc=>?_)
    ·simp only [decide_eq_true_eq] at hc
     have hil:i<o.length:=by omega
     have hw:=hi2 _ (wU o i 0 hil)
     have d1:decide (o.getD i 0<0)=false:=decide_eq_false (by omega)
     have d2:decide ((p.bods.length:Int)≤o.getD i 0)=false:=decide_eq_false (by omega)
     simp only [go_sem,seval,qI o i hil,d1,d2,qS (i:=i) (by omega)]
     repeat refine K ?_
     refine qT (i+1) ?_ hil (by omega)
     refine Sub.trans (Sub.fold1 13 1 26 rfl (by simp [-gD]<;>omega) rfl (by decide) (by decide) rfl) ?_
     simp only [fS,fS2,qA,qC]
     refine Sub.shape [] id (by omega) ?_ ?_ ?_ ?_<;>simp [qK]
    ·simp only [go_sem,seval]
     repeat refine K ?_
     refine CA [] (hmo) ?_
     try simp only [go_sem,seval]
     repeat refine K ?_
     try simp only [go_sem,seval]
     repeat refine K ?_
     refine fz ?_; simp [qZ,qU,qV,qQ,-List.drop_one]
 ·repeat refine K ?_
  refine DA [] (wAz code 1 hb (by omega) hby) ?_
  try simp only [go_sem,seval]
  repeat refine K ?_
  try simp only [go_sem,seval,w1,w2,p1]
  repeat refine K ?_
  all_goals
   refine DA [] (ck) ?_
   try simp only [go_sem,seval]
   repeat refine K ?_
   try simp only [go_sem,seval,v4,p3]
   repeat refine K ?_
   refine CA [] (cC o' o' (by omega)) ?_
   try simp only [go_sem,seval]
   repeat refine K ?_
   try simp only [go_sem,seval]
   repeat refine K ?_
   refine qX (ι:=Nat) (fun i=>.mk [(3,.ptr 13 0 0),(5,.ns 14 0 o.length),(6,.ptr 19 0 0),(14,.int .i64 i)] [(13,2,[jF .own p]),(14,1,wN o),(19,4,[qR .own m])] 26) (fun i=>i≤o.length) (fun i=>o.length-i) 0 (by simp) ?_ ?_
   ·refine Sub.trans (Sub.fold1 13 0 10 rfl (by simp [-gD]<;>omega) rfl (by decide) (by decide) rfl) ?_
    simp only [fS,fS2,qA,qC]
    refine Sub.trans (Sub.fold1 13 1 11 rfl (by simp [-gD]<;>omega) rfl (by decide) (by decide) rfl) ?_
    simp only [fS,fS2,qA,qC]
    refine Sub.trans (Sub.fold1 19 0 15 rfl (by simp [-gD]<;>omega) rfl (by decide) (by decide) rfl) ?_
    simp only [fS,fS2,qA,qC]
    refine Sub.trans (Sub.fold1 19 1 16 rfl (by simp [-gD]<;>omega) rfl (by decide) (by decide) rfl) ?_
    simp only [fS,fS2,qA,qC]
    refine Sub.trans (Sub.fold1 19 2 17 rfl (by simp [-gD]<;>omega) rfl (by decide) (by decide) rfl) ?_
    simp only [fS,fS2,qA,qC]
    refine Sub.trans (Sub.fold1 19 3 18 rfl (by simp [-gD]<;>omega) rfl (by decide) (by decide) rfl) ?_
    simp only [fS,fS2,qA,qC]
    refine Sub.shape [] id (by omega) ?_ ?_ ?_ ?_<;>simp [qK]
   ·intro i hi
    simp only [go_sem,seval]
    refine qL (fun hc=>?_) (fun hc=>?_)
    ·simp only [decide_eq_true_eq] at hc
     have hil:i<o.length:=by omega
     have hw:=hi2 _ (wU o i 0 hil)
     have d1:decide (o.getD i 0<0)=false:=decide_eq_false (by omega)
     have d2:decide ((p.bods.length:Int)≤o.getD i 0)=false:=decide_eq_false (by omega)
     simp only [go_sem,seval,qI o i hil,d1,d2,qS (i:=i) (by omega)]
     repeat refine K ?_
     refine qT (i+1) ?_ hil (by omega)
     refine Sub.trans (Sub.fold1 13 1 26 rfl (by simp [-gD]<;>omega) rfl (by decide) (by decide) rfl) ?_
     simp only [fS,fS2,qA,qC]
     refine Sub.shape [] id (by omega) ?_ ?_ ?_ ?_<;>simp [qK]
    ·simp only [go_sem,seval]
     repeat refine K ?_
     refine CA [] (hmo) ?_
     try simp only [go_sem,seval]
     repeat refine K ?_
     try simp only [go_sem,seval]
     repeat refine K ?_
     refine fz ?_; simp [qZ,qU,qV,qQ,-List.drop_one]
end Go.Sep
