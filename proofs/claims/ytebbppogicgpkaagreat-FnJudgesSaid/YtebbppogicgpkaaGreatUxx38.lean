/- Contracts of functions. -/
import Derived.Test.YtebbppogicgpkaaGreatUxx36
import Derived.Test.YtebbppogicgpkaaGreatUxx37
namespace Go.Sep
set_option maxHeartbeats 16000000
open Go.Proofs
set_option linter.unusedSimpArgs false
set_option linter.unusedVariables false
set_option maxRecDepth 100000
def m458:MFn:=⟨97,[.t 2],kr [xF 2] (.seq (kr [xv 12 0,xc1 13 19 (.t 12)] (kF 13 [xT 2])) (kr [xv 15 0,xo 16 (.call 459 [true] [.t 15]),xv 14 16,xX 17 14 0,xX 18 14 1,xo 3 (.alloc [.nil,.nil]),xS 2 3 17,xv 4 18] (.seq (.dreg (.take 0 (xm 19 2 3) (.take 1 (xv 20 4) (.take 3 (xm 22 2 3) (.take 4 (xv 23 4) (.take 6 (xm 25 2 3) (.take 7 (xv 26 4) (.take 9 (xm 28 2 3) (.take 10 (xv 29 4) (.only 2 [0,1] (xc2 21 410 (.t 19) (.t 20)) (.only 5 [2,3,4,0,1] (xc2 24 413 (.t 22) (.t 23)) (.only 8 [5,6,7,2,3,4,0,1] (xc2 27 443 (.t 25) (.t 26)) (.only 11 [8,9,10,5,6,7,2,3,4,0,1] (xc2 30 398 (.t 28) (.t 29)) (.only 12 [0,1,11,8,9,10,5,6,7,3,4] (xv 5 21) (.only 13 [0,1,3,4,12,11,8,9,10,6,7] (xv 6 24) (.only 14 [0,1,3,4,6,7,12,11,9,10] (xv 7 27) (.only 15 [0,1,3,4,6,7,9,10] (xv 8 30) (.done)))))))))))))))))) (.seq (kr [xv 31 5,xm 32 2 3,xv 33 4,xc2 34 409 (.t 32) (.t 33),xo 35 (.eqB true (.t 31) (.t 34)),xv 36 35,zv 37 6 36,xg 38 (.load 2 true (.t 3)) 36 false,zv 39 4 36,xg 40 (.call 412 [false,false] [.t 38,.t 39]) 36 false,xg 41 (.eqB true (.t 37) (.t 40)) 36 false,xQ 42 36 41,xv 43 42,zv 44 7 43,xg 45 (.load 2 true (.t 3)) 43 false,zv 46 4 43,xg 47 (.call 453 [false,false] [.t 45,.t 46]) 43 false,xg 48 (.eqB true (.t 44) (.t 47)) 43 false,xQ 49 43 48,xv 50 49,zv 51 8 50,xg 52 (.load 2 true (.t 3)) 50 false,zv 53 4 50,xg 54 (.call 397 [false,false] [.t 52,.t 53]) 50 false,xg 55 (.eqB true (.t 51) (.t 54)) 50 false,xQ 56 50 55] (kF 56 [xF 2])) (kr [xm 58 2 3,xv 59 4,xc2 60 407 (.t 58) (.t 59),xv 57 60,xX 61 57 0,xX 62 57 1,xX 63 57 2,xo 10 (.alloc [.nil,.nil,.nil,.nil]),xv 9 61,xS 4 10 62,xv 11 63] (kR [xm 64 2 3,xv 65 4,xc2 66 460 (.t 64) (.t 65),xv 67 5,xv 68 67,yv 69 6 68,xP 70 68 69,xv 71 70,yv 72 7 71,xP 73 71 72,xv 74 73,yv 75 8 74,xP 76 74 75,xo 77 (.eqB false (.t 66) (.t 76)),xv 78 77,yv 79 11 78,yv 80 79 78,zv 81 5 80,zN 82 81 80,zv 83 82 80,yv 84 6 83,yN 85 84 83,xg 86 (.pick (.t 83) (.t 85) (.c (.bool false))) 80 false,zv 87 86 80,yv 88 7 87,yN 89 88 87,xg 90 (.pick (.t 87) (.t 89) (.c (.bool false))) 80 false,zv 91 90 80,yv 92 8 91,yN 93 92 91,xg 94 (.pick (.t 91) (.t 93) (.c (.bool false))) 80 false,xg 95 (.pick (.t 80) (.c (.bool true)) (.t 94)) 78 true,xP 96 78 95,xv 2 96]))))))⟩
theorem qW7 (code:List Int):qU Tryz.prog num 458 [.sl .fz 1 (bys code)] [] (.bool true):=by
 refine EN m458 Tryz.func12 ?_
 unfold m458
 simp only [go_sem,seval]
 refine CA [] (qWu code) ?_
 try simp only [go_sem,seval]
 by_cases hbig:(1048576:Int)<code.length
 ·try simp only [go_sem,seval,hbig]
  refine fz ?_; simp [wA,qR,qS,qN,-List.drop_one]
 have hb:code.length<2^62:=by omega
 try simp only [go_sem,seval,hbig]
 refine CA [] (qFx code hb) ?_
 try simp only [go_sem,seval]
 repeat refine K ?_
 obtain ⟨hpp,hl,hx⟩:=qVx code
 generalize qK0 code=w at hpp hl hx
 obtain ⟨p,l⟩:=w
 simp only at hpp hl hx⊢
 have a1:=nJ p l hpp (by omega) hx
 have a2:=pA p l hpp (by omega) hx
 have a3:=pB p l hpp (by omega) hx
 have a4:=nK p l hpp (by omega) hx
 have a5:=qFu p l hpp (by omega) hx
 have b1:=qC8 p l hpp (by omega) hx
 have b2:=qDn p l hpp (by omega) hx
 have b3:=qDo p l hpp (by omega) hx
 have b4:=qC9 p l hpp (by omega) hx
 have cw:=aO p l hpp (by omega) hx
 unfold lW at a3 b3
 unfold qHt at a5
 rw [qAv] at a1 b1
 rw [qCt] at a2 b2
 rw [qAw] at a4 b4
 generalize wU p l=W at *
 obtain ⟨o,m,b⟩:=W
 simp only at a1 a2 a3 a4 a5 b1 b2 b3 b4 cw
 have eb:(b==b)=true:=by simp
 refine DA [] (a1) ?_
 try simp only [go_sem,seval]
 refine DA [] (a2) ?_
 try simp only [go_sem,seval]
 refine DA [] (a3) ?_
 try simp only [go_sem,seval]
 refine DA [] (a4) ?_
 try simp only [go_sem,seval]
 refine CA [] (b1) ?_
 try simp only [go_sem,seval]
 refine CA [] (b2) ?_
 try simp only [go_sem,seval]
 refine CA [] (b3) ?_
 try simp only [go_sem,seval]
 refine CA [] (b4) ?_
 try simp only [go_sem,seval]
 refine CA [] (cw) ?_
 try simp only [go_sem,seval]
 refine CA [] (a5) ?_
 try simp only [go_sem,seval]
 cases b
 ·try simp only [go_sem,seval]
  refine fz ?_; simp [wA,qR,qS,qN,-List.drop_one]
 ·try simp only [go_sem,seval]
  refine fz ?_; simp [wA,qR,qS,qN,-List.drop_one]
end Go.Sep
