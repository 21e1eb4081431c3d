/- Contracts of functions. -/
import Derived.Test.YtebbppogicgpkaaGreatRxx31
namespace Go.Sep
set_option maxHeartbeats 16000000
open Go.Proofs
set_option linter.unusedSimpArgs false
set_option linter.unusedVariables false
set_option maxRecDepth 100000
def m448:MFn:=⟨129,[.t 4],kr [xb 2 0,xb 3 1,xF 4] (.seq (kr [xa 11 1 2,xl 12 11,xe 13 12,xa 14 1 3,xl 15 14,xe 16 15,bT 17 .neq 13 16,xv 18 17,za 19 3 2 18,zl 20 1 19 18,za 21 3 3 18,zl 22 1 21 18,xg 23 (.call 160 [false,false] [.t 20,.t 22]) 18 false,zN 24 23 18,xQ 25 18 24,xv 26 25,za 27 2 2 26,za 28 0 27 26,zl 29 1 28 26,ze 30 29 26,za 31 2 3 26,za 32 0 31 26,zl 33 1 32 26,ze 34 33 26,xg 35 (.bin .neq (.t 30) (.t 34)) 26 false,xQ 36 26 35] (kF 36 [xF 4])) (.seq (kr [xI 5 0] (.blk 0 (.loop (.seq (kr [xv 37 5,xa 38 1 2,xl 39 38,xe 40 39,bT 41 .lss 37 40] (kX 41 0)) (.seq (.blk 1 (.seq (.dreg (.take 0 (xa 44 1 2) (.take 1 (xl 45 44) (.take 2 (xv 46 5) (.take 3 (xD 47 4 45 46) (.take 4 (xm 48 4 47) (.take 5 (xa 49 1 3) (.take 6 (xl 50 49) (.take 7 (xv 51 5) (.take 8 (xD 52 4 50 51) (.take 9 (xm 53 4 52) (.both 10 [] (xo 6 (.alloc [.int .i64 0,.nil,.nil,.int .i64 0])) (.only 11 [] (xo 7 (.alloc [.int .i64 0,.nil,.nil,.int .i64 0])) (.only 12 [0,1,2,3,4] (xS 4 6 48) (.only 13 [0,1,2,3,4,5,6,7,8,9] (xS 4 7 53) (.done)))) 11 [] (xo 7 (.alloc [.int .i64 0,.nil,.nil,.int .i64 0])) (.only 10 [] (xo 6 (.alloc [.int .i64 0,.nil,.nil,.int .i64 0])) (.only 12 [0,1,2,3,4] (xS 4 6 48) (.only 13 [0,1,2,3,4,5,6,7,8,9] (xS 4 7 53) (.done)))))))))))))))) (kr [xa 54 0 6,xl 55 54,xa 56 0 7,xl 57 56,bT 58 .neq 55 57,xv 59 58,za 60 3 6 59,zl 61 1 60 59,za 62 3 7 59,zl 63 1 62 59,xg 64 (.bin .neq (.t 61) (.t 63)) 59 false,xQ 65 59 64,xv 66 65,za 67 1 6 66,zl 68 1 67 66,za 69 1 7 66,zl 70 1 69 66,xg 71 (.call 23 [false,false] [.t 68,.t 70]) 66 false,zN 72 71 66,xQ 73 66 72,xv 74 73,za 75 2 6 74,zl 76 1 75 74,za 77 2 7 74,zl 78 1 77 74,xg 79 (.call 23 [false,false] [.t 76,.t 78]) 74 false,zN 80 79 74,xQ 81 74 80] (kF 81 [xF 4])))) (xr [xv 42 5,bI 43 .add 42 1,xv 5 43])))))) (.seq (kr [xI 8 0] (.blk 2 (.loop (.seq (kr [xv 82 8,xa 83 2 2,xa 84 0 83,xl 85 84,xe 86 85,bT 87 .lss 82 86] (kX 87 2)) (.seq (.blk 3 (.seq (.dreg (.take 0 (xa 90 2 2) (.take 1 (xa 91 0 90) (.take 2 (xl 92 91) (.take 3 (xv 93 8) (.take 4 (xD 94 1 92 93) (.take 5 (xl 95 94) (.take 6 (xa 96 2 3) (.take 7 (xa 97 0 96) (.take 8 (xl 98 97) (.take 9 (xv 99 8) (.take 10 (xD 100 1 98 99) (.take 11 (xl 101 100) (.only 12 [0,1,2,3,4,5] (xv 9 95) (.only 13 [0,1,2,3,4,5,6,7,8,9,10,11] (xv 10 101) (.done)))))))))))))))) (.seq (.dreg (.take 0 (xv 102 9) (.take 1 (xe 103 102) (.only 2 [] (xv 104 10) (.only 3 [] (xe 105 104) (.only 4 [1,0] (bT 106 .neq 103 105) (.only 5 [4,1,0] (xv 107 106) (.only 6 [5,4,1,0] (zv 108 9 107) (.only 7 [5,4,1,0] (ze 109 108 107) (.only 8 [5,4,1,0] (zI 110 .gtr 109 0 107) (.only 9 [5,4,1,0] (zv 111 110 107) (.take 10 (yv 112 9 111) (.take 11 (yv 113 9 111) (.take 12 (ye 114 113 111) (.take 13 (yI 115 .sub 114 1 111) (.take 14 (xg 116 (.iad 2 (.t 112) (.t 115)) 111 true) (.take 15 (ya 117 0 116 111) (.take 16 (yl 118 1 117 111) (.take 17 (yv 119 10 111) (.only 18 [9,5,4,1,0] (yv 120 10 111) (.only 19 [9,5,4,1,0] (ye 121 120 111) (.only 20 [9,5,4,1,0] (yI 122 .sub 121 1 111) (.only 21 [9,17,5,4,1,0] (xg 123 (.iad 2 (.t 119) (.t 122)) 111 true) (.only 22 [9,21,5,17,4,1,0] (ya 124 0 123 111) (.only 23 [9,22,5,21,4,17,1,0] (yl 125 1 124 111) (.only 24 [9,16,23,5,15,22,4,14,21,1,10,13,17,0,12,11] (xg 126 (.bin .neq (.t 118) (.t 125)) 111 true) (.only 25 [5,24,4,16,23,1,15,22,0,14,21,10,13,17,12,11] (xg 127 (.pick (.t 111) (.t 126) (.c (.bool false))) 107 false) (.only 26 [5,25,4,24,1,16,23,0,15,22,14,21,10,13,17,12,11] (xQ 128 107 127) (.done))))))))))))))))))))))))))))) (kF 128 [xF 4])))) (xr [xv 88 8,bI 89 .add 88 1,xv 8 89])))))) (kR [xT 4]))))⟩
theorem pJ (m:qK) (hm:aG m):qZ Tryz.prog num 448 [.agg (qN .bw m),.agg (qN .bw m)] [] (.bool true):=by
 have hcl:=hm.cores
 have hme:=hm.mem
 refine EN m448 Tryz.func35 ?_
 unfold m448
 simp only [go_sem,seval]
 repeat refine K ?_
 refine CA [] (qLe m.tr m.tr (by have:=hm.tr; omega)) ?_
 try simp only [go_sem,seval]
 repeat refine K ?_
 try simp only [go_sem,seval]
 repeat refine K ?_
 refine wC (ι:=Nat) (fun i=>.mk [(2,.ptr 10 0 0),(3,.ptr 11 0 0),(5,.int .i64 i)] [(10,4,[qN .bw m]),(11,4,[qN .bw m])] 12) (fun i=>i≤m.cores.length) (fun i=>m.cores.length-i) 0 (by simp) ?_ ?_
 ·refine Sub.shape [] id (by omega) ?_ ?_ ?_ ?_<;>simp [qP]
 ·intro i hi
  by_cases hc:i<m.cores.length
  ·have d1:decide ((i:Int)<(m.cores.length:Int))=true:=by simp; omega
   have hg:=yL .bw m.cores i hc
   have hr:=hm.regs _ (wX m.cores i default hc)
   have hv:=hm.views _ (wX m.cores i default hc)
   simp only [go_sem,seval,d1,hg]
   repeat refine K ?_
   refine ⟨?_,?_⟩
   all_goals
    repeat refine K ?_
    try simp only [go_sem,seval]
    repeat refine K ?_
    refine CA [] (qDw (m.cores.getD i default).regs (m.cores.getD i default).regs (by omega)) ?_
    try simp only [go_sem,seval]
    repeat refine K ?_
    try simp only [go_sem,seval]
    repeat refine K ?_
    refine CA [] (qDw (m.cores.getD i default).view (m.cores.getD i default).view (by omega)) ?_
    try simp only [go_sem,seval]
    repeat refine K ?_
    try simp only [go_sem,seval,qR (i:=i) (by omega)]
    repeat refine K ?_
    refine qT (i+1) (Sub.shape [] id (by omega) ?_ ?_ ?_ ?_) ?_ ?_
    any_goals (first | omega | (simp [qP]; done))
  ·have d1:decide ((i:Int)<(m.cores.length:Int))=false:=by simp; omega
   simp only [go_sem,seval,d1]
   repeat refine K ?_
   refine wC (ι:=Nat) (fun i=>.mk [(2,.ptr 10 0 0),(3,.ptr 11 0 0),(8,.int .i64 i)] [(10,4,[qN .bw m]),(11,4,[qN .bw m])] 12) (fun i=>i≤m.mem.cells.length) (fun i=>m.mem.cells.length-i) 0 (by simp) ?_ ?_
   ·refine Sub.shape [] id (by omega) ?_ ?_ ?_ ?_<;>simp [qP]
   ·intro j hj
    have hml:=hme.len
    by_cases hc2:j<m.mem.cells.length
    ·have d2:decide ((j:Int)<(m.mem.cells.length:Int))=true:=by simp; omega
     have hg:=jM .bw m.mem.cells j hc2
     have hcj:=hme.cell _ (wX m.mem.cells j [] hc2)
     generalize m.mem.cells.getD j []=ws at hg hcj
     by_cases hw:ws.length=0
     ·have d3:decide ((0:Int)<(ws.length:Int))=false:=decide_eq_false (by omega)
      simp only [go_sem,seval,d2,hg,d3,qR (i:=j) (by omega)]
      repeat refine K ?_
      refine qT (j+1) (Sub.shape [] id (by omega) ?_ ?_ ?_ ?_) ?_ ?_
      any_goals (first | omega | (simp [qP]; done))
     ·have d3:decide ((0:Int)<(ws.length:Int))=true:=decide_eq_true (by omega)
      obtain ⟨k,hk⟩ :∃k,ws.length=k+1:=⟨ws.length-1,by omega⟩
      have w1:IntKind.i64.wrap ((ws.length:Int)-1)=(k:Int):=by
       have e:(ws.length:Int)-1=(k:Int):=by omega
       rw [e]
       exact wM (by omega) (by omega)
      have hgw:=eB .bw ws k (by omega)
      simp only [go_sem,seval,d2,hg,d3,w1,hgw,qR (i:=j) (by omega)]
      repeat refine K ?_
      refine qT (j+1) (Sub.shape [] id (by omega) ?_ ?_ ?_ ?_) ?_ ?_
      any_goals (first | omega | (simp [qP]; done))
    ·have d2:decide ((j:Int)<(m.mem.cells.length:Int))=false:=by simp; omega
     simp only [go_sem,seval,d2]
     repeat refine K ?_
     refine fz ?_; simp [wJ,wA,wB,qY,-List.drop_one]
end Go.Sep
