/- Contracts of functions. -/
import Derived.Test.YtfecojefbnnknaaGreatRxx0
open Bool renaming not_eq_false → wDd, not_eq_false' → wDb, not_eq_true → wDc, not_eq_true' → wDa
open List renaming drop_one → wD9
namespace Go.Sep
set_option maxHeartbeats 16000000
open Go.Proofs
set_option linter.unusedSimpArgs false
set_option linter.unusedVariables false
set_option maxRecDepth 100000
def m79:MFn:=⟨33,[.cell 4 3 true,.t 5],kr [xb 2 0,xo 4 (.alloc [.int .i64 0,.nil,.bool false]),xI 5 0] (kr [xm 7 3 2,xc1 8 70 (.t 7),xo 6 (.alloc [.int .i64 0,.nil,.bool false]),xS 3 6 8] (.seq (.blk 0 (kr [xa 10 2 2,xl 11 10,xv 12 11,xg 13 (.load 3 true (.t 2)) 12 false,xg 14 (.call 72 [false] [.t 13]) 12 false,zN 15 14 12,xQ 16 12 15,xv 9 16] (.cond 9 (kR [xm 17 3 6,xS 3 4 17,xI 5 2]) (kr [xa 19 1 2,xl 20 19,xe 21 20,xa 22 0 2,xl 23 22,bT 24 .eql 21 23,xv 18 24] (kF 18 [xm 25 3 6,xS 3 4 25,xI 5 1]))))) (kr [xa 26 1 6,xl 27 26,xv 28 1,xo 29 (.mkSl [xz] 1 [(0,.t 28)]),xA 30 1 8 27 29,xa 31 1 6,xS 1 31 30] (kR [xm 32 3 6,xS 3 4 32,xI 5 0]))))⟩
def m80:MFn:=⟨32,[.cell 2 3 true,.t 3,.t 4],kr [xb 1 0,xo 2 (.alloc [.int .i64 0,.nil,.bool false]),xI 3 0,xI 4 0] (kr [xm 6 3 1,xc1 7 70 (.t 6),xo 5 (.alloc [.int .i64 0,.nil,.bool false]),xS 3 5 7] (.seq (.blk 0 (kr [xm 9 3 1,xc1 10 72 (.t 9),xN 11 10,xv 8 11] (.cond 8 (kR [xm 12 3 5,xS 3 2 12,xI 3 0,xI 4 2]) (kr [xa 14 1 1,xl 15 14,xe 16 15,bI 17 .gtr 16 0,xv 13 17] (.cond 13 (kr [xa 18 1 5,xl 19 18,xo 20 (.cut 1 (.t 19) (some (xi 1)) none),xa 21 1 5,xS 1 21 20] (.seq (.dreg (.take 0 (xm 22 3 5) (.take 1 (xa 23 1 1) (.take 2 (xl 24 23) (.take 3 (xo 25 (.iad 1 (.t 24) (xi 0))) (.take 4 (xl 26 25) (.only 5 [0] (xS 3 2 22) (.only 6 [0,1,2,3,4] (xv 3 26) (.only 7 [0,1,2,3,4] (xI 4 0) (.done)))))))))) (.ret))) (kr [xa 28 2 1,xl 29 28,xv 27 29] (kF 27 [xm 30 3 5,xS 3 2 30,xI 3 0,xI 4 3]))))))) (kR [xm 31 3 5,xS 3 2 31,xI 3 0,xI 4 1])))⟩
def m81:MFn:=⟨17,[.cell 2 3 true,.t 3],kr [xb 1 0,xo 2 (.alloc [.int .i64 0,.nil,.bool false]),xI 3 0] (kr [xm 5 3 1,xc1 6 70 (.t 5),xo 4 (.alloc [.int .i64 0,.nil,.bool false]),xS 3 4 6] (.seq (kr [xa 7 2 1,xl 8 7,xv 9 8,xg 10 (.load 3 true (.t 1)) 9 false,xg 11 (.call 72 [false] [.t 10]) 9 false,zN 12 11 9,xQ 13 9 12] (kF 13 [xm 14 3 4,xS 3 2 14,xI 3 2])) (kr [xa 15 2 4,⟨none,.store 1 (.t 15) (.c (.bool true)),none⟩] (kR [xm 16 3 4,xS 3 2 16,xI 3 0]))))⟩
def m88:MFn:=⟨88,[.t 6],kr [xb 3 0,xF 6] (.seq (.seq (.dreg (.only 0 [] (xv 7 2) (.only 1 [] (xc3 8 59 (.t 7) (xi 0) (xi 3)) (.only 2 [] (xN 9 8) (.only 3 [] (xv 10 9) (.only 4 [] (za 11 0 3 10) (.only 5 [] (zl 12 1 11 10) (.only 6 [] (xg 13 (.call 59 [false,false,false] [.t 12,xi 1,xi 13]) 10 false) (.only 7 [] (zN 14 13 10) (.only 8 [] (xQ 15 10 14) (.only 9 [] (xv 16 15) (.take 10 (xg 17 (.load 5 true (.t 3)) 16 false) (.only 11 [] (xg 18 (.load 5 true (.t 3)) 16 false) (.only 12 [] (xg 19 (.call 96 [false] [.t 18]) 16 false) (.only 13 [10] (xg 20 (.eqS true [true,true,true,true,true] (.t 17) (.t 19)) 16 false) (.only 14 [13,10] (xQ 21 16 20) (.only 15 [14,13,10] (xv 22 21) (.only 16 [15,14,13,10] (za 23 1 3 22) (.only 17 [15,14,13,10] (zl 24 1 23 22) (.only 18 [15,14,13,10] (xg 25 (.call 97 [false] [.t 24]) 22 false) (.only 19 [15,14,13,10] (zN 26 25 22) (.only 20 [15,14,13,10] (xQ 27 22 26) (.only 21 [18,15,14,13,10] (xv 28 27) (.only 22 [21,18,15,14,13,10] (za 29 2 3 28) (.only 23 [21,18,15,14,13,10] (zl 30 1 29 28) (.only 24 [21,18,15,14,13,10] (xg 31 (.call 97 [false] [.t 30]) 28 false) (.only 25 [21,18,15,14,13,10] (zN 32 31 28) (.only 26 [21,18,15,14,13,10] (xQ 33 28 32) (.only 27 [24,21,18,15,14,13,10] (xv 34 33) (.only 28 [27,24,21,18,15,14,13,10] (za 35 3 3 34) (.only 29 [27,24,21,18,15,14,13,10] (zl 36 1 35 34) (.only 30 [27,24,21,18,15,14,13,10] (xg 37 (.call 97 [false] [.t 36]) 34 false) (.only 31 [27,24,21,18,15,14,13,10] (zN 38 37 34) (.only 32 [27,24,21,18,15,14,13,10] (xQ 39 34 38) (.done))))))))))))))))))))))))))))))))))) (kF 39 [xF 6])) (.seq (.blk 0 (kr [xa 41 0 3,xl 42 41,bI 43 .eql 42 1,xv 40 43] (.cond 40 (kR [xa 44 4 3,xl 45 44,xc3 46 59 (.t 45) (.c (.int .i64 (-1000000000))) (xi 1000000000),xv 6 46]) (kr [xa 48 0 3,xl 49 48,bI 50 .eql 49 11,xv 51 50,za 52 0 3 51,zl 53 1 52 51,zI 54 .eql 53 12 51,xQ 55 51 54,xv 47 55] (.cond 47 (kR [xa 56 4 3,xl 57 56,xv 58 1,bI 59 .sub 58 1,xc3 60 59 (.t 57) (xi 0) (.t 59),xv 6 60]) (kr [xa 62 0 3,xl 63 62,bI 64 .eql 63 6,xv 65 64,za 66 0 3 65,zl 67 1 66 65,zI 68 .eql 67 8 65,xQ 69 65 68,xv 70 69,ya 71 1 3 70,yl 72 1 71 70,ya 73 3 3 70,yl 74 1 73 70,xg 75 (.bin .eql (.t 72) (.t 74)) 70 true,xP 76 70 75,xv 61 76] (kF 61 [xF 6]))))))) (kR [xa 77 0 3,xl 78 77,xc1 79 44 (.t 78),xN 80 79,xv 81 80,za 82 4 3 81,zl 83 1 82 81,zv 84 2 81,zI 85 .sub 84 1 81,xg 86 (.call 59 [false,false,false] [.t 83,xi 0,.t 85]) 81 false,xQ 87 81 86,xv 6 87])))⟩
def yD (c:jZ) (v:Int):jZ×Int :=
 if c.closed||!jT c then (c,2) else if (c.list.length:Int)=c.cap then (c,1) else ({c with list:=c.list++[v]},0)
def wP (c:jZ):jZ×Int×Int :=
 if !jT c then (c,0,2) else if 0<c.list.length then ({c with list:=c.list.drop 1},c.list.getD 0 0,0) else if c.closed then (c,0,3) else (c,0,1)
def vN (c:jZ):jZ×Int:=if c.closed||!jT c then (c,2) else ({c with closed:=true},0)
theorem xY (c:jZ) (v:Int) (hx:8*c.list.length<2^46):qY Tryz.prog num 79 [.agg (aZ .bw c),.int .i64 v] [] (.tup [.agg (aZ .own (yD c v).1),.int .i64 (yD c v).2]):=by
 refine EN m79 Tryz.func128 ?_
 unfold m79
 simp only [go_sem,seval]
 refine CA [] (iO c (by omega)) ?_
 try simp only [go_sem,seval]
 cases hc:c.closed
 ·simp only [go_sem,seval,hc]
  refine CA [] (eO c) ?_
  try simp only [go_sem,seval]
  cases ho:jT c
  ·simp only [go_sem,seval,ho,hc]
   refine fz ?_; simp [yQ,wJ,wK,wR,-wD9]
   simp [yD,hc,ho]
  ·simp only [go_sem,seval,ho,hc]
   by_cases hl:(c.list.length:Int)=c.cap
   ·simp only [go_sem,seval,hl]
    refine fz ?_; simp [yQ,wJ,wK,wR,-wD9]
    simp [yD,hc,ho,hl]
   ·simp only [go_sem,seval,hl]
    repeat refine K ?_
    refine fz ?_; simp [yQ,wJ,wK,wR,-wD9]
    simp [yD,hc,ho,hl,wE]
 ·simp only [go_sem,seval,hc]
  refine fz ?_; simp [yQ,wJ,wK,wR,-wD9]
  simp [yD,hc]
theorem nF (c:jZ) (hx:8*c.list.length<2^46):qY Tryz.prog num 80 [.agg (aZ .bw c)] [] (.tup [.agg (aZ .own (wP c).1),.int .i64 (wP c).2.1,.int .i64 (wP c).2.2]):=by
 refine EN m80 Tryz.func129 ?_
 unfold m80
 simp only [go_sem,seval]
 refine CA [] (iO c (by omega)) ?_
 try simp only [go_sem,seval]
 refine CA [] (eO c) ?_
 try simp only [go_sem,seval]
 cases ho:jT c
 ·simp only [go_sem,seval,ho]
  refine fz ?_; simp [yQ,wJ,wK,wR,-wD9]
  simp [wP,ho]
 ·simp only [go_sem,seval,ho]
  by_cases hl:(0:Int)<c.list.length
  ·have hl':0<c.list.length:=by omega
   simp only [go_sem,seval,hl,qI c.list 0 hl']
   repeat refine K ?_
   refine fz ?_; simp [yQ,wJ,wK,wR,-wD9]
   simp [wP,ho,hl']<;>try omega
  ·have hl' :¬0<c.list.length:=by omega
   simp only [go_sem,seval,hl]
   cases hc:c.closed
   ·simp only [go_sem,seval,hc]
    refine fz ?_; simp [yQ,wJ,wK,wR,-wD9]
    simp [wP,ho,hl',hc]
   ·simp only [go_sem,seval,hc]
    refine fz ?_; simp [yQ,wJ,wK,wR,-wD9]
    simp [wP,ho,hl',hc]
theorem qC2 (c:jZ) (hx:8*c.list.length<2^46):qY Tryz.prog num 81 [.agg (aZ .bw c)] [] (.tup [.agg (aZ .own (vN c).1),.int .i64 (vN c).2]):=by
 refine EN m81 Tryz.func130 ?_
 unfold m81
 simp only [go_sem,seval]
 refine CA [] (iO c (by omega)) ?_
 try simp only [go_sem,seval]
 cases hc:c.closed
 ·simp only [go_sem,seval,hc]
  refine CA [] (eO c) ?_
  try simp only [go_sem,seval]
  cases ho:jT c
  ·simp only [go_sem,seval,ho]
   refine fz ?_; simp [yQ,wJ,wK,wR,-wD9]
   simp [vN,hc,ho]
  ·simp only [go_sem,seval,ho]
   refine fz ?_; simp [yQ,wJ,wK,wR,-wD9]
   simp [vN,hc,ho]
 ·simp only [go_sem,seval,hc]
  refine fz ?_; simp [yQ,wJ,wK,wR,-wD9]
  simp [vN,hc]
theorem qLg (x:Ins) (pl ch:Int) (h0:-(2^62)≤ch) (h1:ch<2^62) (h2:-(2^62)≤pl) (h3:pl<2^62):qY Tryz.prog num 88 [.agg (gE x),.int .i64 pl,.int .i64 ch] [] (.bool (jJ x pl ch)):=by
 rw [←rE]
 refine EN m88 Tryz.func76 ?_
 unfold m88
 have hw:IntKind.i64.wrap (ch-1)=ch-1:=yL (by omega) (by omega)
 have hw2:IntKind.i64.wrap (pl-1)=pl-1:=yL (by omega) (by omega)
 repeat' (first
  | (simp only [go_sem,seval,hw,hw2])
  | (refine qP (fun hc=>?_) (fun hc=>?_)<;>((try simp only [wDa,wDb,ne_eq,wDc,wDd] at hc)<;>(try simp only [hc])))
  | (refine aE (fun hc=>?_) (fun hc=>?_)<;>((try simp only [wDa,wDb,ne_eq,wDc,wDd] at hc)<;>(try simp only [hc])))
  | (refine zZ (fun hc=>?_) (fun hc=>?_)<;>((try simp only [wDa,wDb,ne_eq,wDc,wDd] at hc)<;>(try simp only [hc])))
  | (refine fZ (bG _ _ _) rfl rfl rfl rfl ?_)
  | (refine cC (bG _ _ _) rfl rfl rfl rfl ?_)
  | (refine fZ (qNx _) rfl rfl rfl rfl ?_)
  | (refine cC (qNx _) rfl rfl rfl rfl ?_)
  | (refine fZ (qN9 _) rfl rfl rfl rfl ?_)
  | (refine cC (qN9 _) rfl rfl rfl rfl ?_)
  | (refine fZ (qIq _) rfl rfl rfl rfl ?_)
  | (refine cC (qIq _) rfl rfl rfl rfl ?_)
  | (refine ⟨by first | omega | (simp; done),?_⟩)
  | fail)
 all_goals (refine fz ?_; simp [yQ,wJ,wK,wR,-wD9])
 all_goals (try (simp_all [oY]; done))
 all_goals (try (simp_all [oY]; omega))
def m92:MFn:=⟨174,[.t 6],kr [xb 3 0,xF 6] (.seq (kr [xa 9 1 3,xl 10 9,xc3 11 64 (.t 10) (xi 0) (xi 3),xN 12 11,xv 13 12,za 14 2 3 13,zl 15 1 14 13,xg 16 (.call 64 [false,false,false] [.t 15,xi 0,xi 3]) 13 false,zN 17 16 13,xQ 18 13 17,xv 19 18,za 20 3 3 19,zl 21 1 20 19,xg 22 (.call 64 [false,false,false] [.t 21,xi 0,xi 3]) 19 false,zN 23 22 19,xQ 24 19 23,xv 25 24,zv 26 2 25,xg 27 (.call 64 [false,false,false] [.t 26,xi 0,xi 3]) 25 false,zN 28 27 25,xQ 29 25 28] (kF 29 [xF 6])) (kr [xa 30 4 3,xl 31 30,bI 32 .geq 31 0,xv 33 32,ya 34 4 3 33,yl 35 1 34 33,yv 36 1 33,xg 37 (.bin .lss (.t 35) (.t 36)) 33 true,xP 38 33 37,xv 7 38] (kr [xa 39 4 3,xl 40 39,xv 41 2,bI 42 .sub 41 1,xc3 43 64 (.t 40) (xi 0) (.t 42),xv 8 43] (.seq (kr [xa 44 0 3,xl 45 44] (.blk 0 (kr [bI 47 .eql 45 1,xv 46 47] (.cond 46 (kR [xa 48 4 3,xl 49 48,xc3 50 64 (.t 49) (.c (.int .i64 (-1000000000))) (xi 1000000000),xv 51 50,ya 52 2 3 51,yl 53 1 52 51,yI 54 .eql 53 0 51,xP 55 51 54,xv 56 55,ya 57 3 3 56,yl 58 1 57 56,yI 59 .eql 58 0 56,xP 60 56 59,xv 6 60]) (.seq (kr [bI 62 .eql 45 2,xv 61 62] (.cond 61 (.skip) (kr [bI 63 .eql 45 3,xv 61 63] (.cond 61 (.skip) (xr [bI 64 .eql 45 4,xv 61 64]))))) (.cond 61 (kR [xa 65 4 3,xl 66 65,bI 67 .eql 66 0,xv 6 67]) (kr [bI 69 .eql 45 5,xv 68 69] (.cond 68 (kR [xv 70 8,xv 71 70,ya 72 1 3 71,yl 73 1 72 71,yI 74 .eql 73 0 71,xP 75 71 74,xv 76 75,ya 77 3 3 76,yl 78 1 77 76,yI 79 .eql 78 0 76,xP 80 76 79,xv 6 80]) (.seq (kr [bI 82 .eql 45 6,xv 81 82] (.cond 81 (.skip) (xr [bI 83 .eql 45 8,xv 81 83]))) (.cond 81 (kR [xv 84 8,xv 85 84,ya 86 2 3 85,yl 87 1 86 85,yI 88 .eql 87 0 85,xP 89 85 88,xv 90 89,ya 91 1 3 90,yl 92 1 91 90,ya 93 3 3 90,yl 94 1 93 90,xg 95 (.bin .neq (.t 92) (.t 94)) 90 true,xP 96 90 95,xv 6 96]) (kr [bI 98 .eql 45 7,xv 97 98] (.cond 97 (kR [xv 99 8,xv 100 99,ya 101 3 3 100,yl 102 1 101 100,yI 103 .eql 102 0 100,xP 104 100 103,xv 6 104]) (kr [bI 106 .eql 45 9,xv 105 106] (.cond 105 (kR [xv 107 8,xv 108 107,ya 109 1 3 108,yl 110 1 109 108,yI 111 .eql 110 0 108,xP 112 108 111,xv 113 112,ya 114 2 3 113,yl 115 1 114 113,yI 116 .eql 115 0 113,xP 117 113 116,xv 118 117,ya 119 3 3 118,yl 120 1 119 118,yI 121 .eql 120 0 118,xP 122 118 121,xv 6 122]) (kr [bI 124 .eql 45 10,xv 123 124] (.cond 123 (kR [xa 125 1 3,xl 126 125,bI 127 .eql 126 0,xv 128 127,ya 129 3 3 128,yl 130 1 129 128,yI 131 .eql 130 0 128,xP 132 128 131,xv 133 132,ya 134 4 3 133,yl 135 1 134 133,yI 136 .eql 135 0 133,xP 137 133 136,xv 6 137]) (kr [bI 139 .eql 45 11,xv 138 139] (.cond 138 (kR [xv 140 7,xv 141 140,ya 142 1 3 141,yl 143 1 142 141,yI 144 .eql 143 0 141,xP 145 141 144,xv 146 145,ya 147 2 3 146,yl 148 1 147 146,yI 149 .eql 148 0 146,xP 150 146 149,xv 151 150,ya 152 3 3 151,yl 153 1 152 151,yI 154 .eql 153 0 151,xP 155 151 154,xv 6 155]) (kr [bI 157 .eql 45 12,xv 156 157] (.cond 156 (kR [xv 158 7,xv 159 158,ya 160 1 3 159,yl 161 1 160 159,yI 162 .eql 161 0 159,xP 163 159 162,xv 164 163,ya 165 3 3 164,yl 166 1 165 164,yI 167 .eql 166 0 164,xP 168 164 167,xv 6 168]) (kr [bI 170 .eql 45 13,xv 169 170] (kF 169 [xm 171 5 3,xo 172 (.build [xz,xz,xz,xz,xz] [(0,1,xi 13)]),xo 173 (.eqS false [true,true,true,true,true] (.t 171) (.t 172)),xv 6 173])))))))))))))))))))))) (kR [xF 6])))))⟩
theorem qKn (x:Ins) (pl ch:Int) (h0:-(2^62)≤ch) (h1:ch<2^62):qY Tryz.prog num 92 [.agg (gE x),.int .i64 pl,.int .i64 ch] [] (.bool (jJ x pl ch)):=by
 refine EN m92 Tryz.func111 ?_
 unfold m92
 have hw:IntKind.i64.wrap (ch-1)=ch-1:=yL (by omega) (by omega)
 repeat' (first
  | (simp only [go_sem,seval,hw])
  | (refine qP (fun hc=>?_) (fun hc=>?_)<;>((try simp only [wDa,wDb,ne_eq,wDc,wDd] at hc)<;>(try simp only [hc])))
  | (refine aE (fun hc=>?_) (fun hc=>?_)<;>((try simp only [wDa,wDb,ne_eq,wDc,wDd] at hc)<;>(try simp only [hc])))
  | (refine zZ (fun hc=>?_) (fun hc=>?_)<;>((try simp only [wDa,wDb,ne_eq,wDc,wDd] at hc)<;>(try simp only [hc])))
  | (refine fZ (mG _ _ _) rfl rfl rfl rfl ?_)
  | (refine cC (mG _ _ _) rfl rfl rfl rfl ?_)
  | (refine ⟨by first | omega | (simp; done),?_⟩)
  | fail)
 all_goals (refine fz ?_; simp [yQ,wJ,wK,wR,-wD9])
 all_goals (try (simp_all [jJ]; done))
 all_goals (try (simp_all [jJ]; omega))
end Go.Sep
