/- Contracts of functions. -/
import Derived.Test.YtebbppogicgpkaaGreatJxx13
open Bool renaming not_eq_false → qYo, not_eq_false' → qYm, not_eq_true → qYn, not_eq_true' → qYl
open List renaming drop_one → qYj
namespace Go.Sep
set_option maxHeartbeats 16000000
open Go.Proofs
set_option linter.unusedSimpArgs false
set_option linter.unusedVariables false
set_option maxRecDepth 100000
def m261:MFn:=⟨161,[.t 4],kr [xb 2 0,xF 4] (kr [xa 8 0 2,xl 9 8,bI 10 .eql 9 5,xv 11 10,za 12 0 2 11,zl 13 1 12 11,zI 14 .eql 13 6 11,xQ 15 11 14,xv 16 15,za 17 0 2 16,zl 18 1 17 16,zI 19 .eql 18 7 16,xQ 20 16 19,xv 5 20] (.seq (kr [xa 21 1 2,xl 22 21,xc1 23 301 (.t 22),xN 24 23,xv 25 24,za 26 3 2 25,zl 27 1 26 25,xg 28 (.call 301 [false] [.t 27]) 25 false,zN 29 28 25,xQ 30 25 29,xv 31 30,za 32 2 2 31,zl 33 1 32 31,xg 34 (.call 301 [false] [.t 33]) 31 false,zN 35 34 31,zv 36 35 31,yv 37 5 36,yN 38 37 36,yv 39 38 36,za 40 2 2 39,zl 41 1 40 39,xg 42 (.bin .neq (.t 41) (.c (.int .i64 (-1)))) 39 false,xg 43 (.pick (.t 39) (.c (.bool true)) (.t 42)) 36 true,xg 44 (.pick (.t 36) (.t 43) (.c (.bool false))) 31 false,xQ 45 31 44] (kF 45 [xF 4])) (kr [xa 46 4 2,xl 47 46,bI 48 .geq 47 0,xv 49 48,ya 50 4 2 49,yl 51 1 50 49,yv 52 1 49,xg 53 (.bin .lss (.t 51) (.t 52)) 49 true,xP 54 49 53,xv 6 54] (kr [xa 55 4 2,xl 56 55,xc3 57 64 (.t 56) (xi 0) (xi 23),xv 7 57] (.seq (kr [xa 58 0 2,xl 59 58] (.blk 0 (kr [bI 61 .eql 59 1,xv 60 61] (.cond 60 (kR [xa 62 4 2,xl 63 62,xc3 64 64 (.t 63) (.c (.int .i64 (-1000000000))) (xi 1000000000),xv 65 64,ya 66 2 2 65,yl 67 1 66 65,yI 68 .eql 67 0 65,xP 69 65 68,xv 70 69,ya 71 3 2 70,yl 72 1 71 70,yI 73 .eql 72 0 70,xP 74 70 73,xv 4 74]) (.seq (kr [bI 76 .eql 59 2,xv 75 76] (.cond 75 (.skip) (kr [bI 77 .eql 59 3,xv 75 77] (.cond 75 (.skip) (xr [bI 78 .eql 59 4,xv 75 78]))))) (.cond 75 (kR [xa 79 4 2,xl 80 79,bI 81 .eql 80 0,xv 4 81]) (kr [bI 83 .eql 59 5,xv 82 83] (.cond 82 (kR [xv 84 7,xv 85 84,ya 86 3 2 85,yl 87 1 86 85,yI 88 .eql 87 0 85,xP 89 85 88,xv 4 89]) (.seq (kr [bI 91 .eql 59 6,xv 90 91] (.cond 90 (.skip) (xr [bI 92 .eql 59 7,xv 90 92]))) (.cond 90 (kR [xv 93 7,xv 94 93,ya 95 1 2 94,yl 96 1 95 94,yI 97 .eql 96 0 94,xP 98 94 97,xv 4 98]) (kr [bI 100 .eql 59 8,xv 99 100] (.cond 99 (kR [xv 101 7,xv 102 101,ya 103 2 2 102,yl 104 1 103 102,yI 105 .eql 104 0 102,xP 106 102 105,xv 4 106]) (kr [bI 108 .eql 59 9,xv 107 108] (.cond 107 (kR [xa 109 1 2,xl 110 109,bI 111 .eql 110 0,xv 112 111,ya 113 3 2 112,yl 114 1 113 112,yI 115 .eql 114 0 112,xP 116 112 115,xv 117 116,ya 118 4 2 117,yl 119 1 118 117,yI 120 .eql 119 0 117,xP 121 117 120,xv 4 121]) (kr [bI 123 .eql 59 10,xv 122 123] (.cond 122 (kR [xv 124 6,xv 125 124,ya 126 1 2 125,yl 127 1 126 125,yI 128 .eql 127 0 125,xP 129 125 128,xv 130 129,ya 131 2 2 130,yl 132 1 131 130,yI 133 .eql 132 0 130,xP 134 130 133,xv 135 134,ya 136 3 2 135,yl 137 1 136 135,yI 138 .eql 137 0 135,xP 139 135 138,xv 4 139]) (kr [bI 141 .eql 59 11,xv 140 141] (.cond 140 (kR [xv 142 6,xv 143 142,ya 144 1 2 143,yl 145 1 144 143,yI 146 .eql 145 0 143,xP 147 143 146,xv 148 147,ya 149 3 2 148,yl 150 1 149 148,yI 151 .eql 150 0 148,xP 152 148 151,xv 4 152]) (.seq (kr [bI 154 .eql 59 12,xv 153 154] (.cond 153 (.skip) (xr [bI 155 .eql 59 13,xv 153 155]))) (kF 153 [xm 156 5 2,xa 157 0 2,xl 158 157,xo 159 (.build [xz,xz,xz,xz,xz] [(0,1,.t 158)]),xo 160 (.eqS false [true,true,true,true,true] (.t 156) (.t 159)),xv 4 160])))))))))))))))))))) (kR [xF 4]))))))⟩
theorem qId (x:yH) (pl:Int):qU Tryz.prog num 261 [.agg (bU x),.int .i64 pl] [] (.bool (yW x pl)):=by
 refine EN m261 Tryz.func158 ?_
 unfold m261
 have hz:qO 0 0 7=true:=by decide
 by_cases e5:x.op=5
 ·skip
  simp only [go_sem,seval,e5]
  refine CA [] (aU x.r) ?_
  try simp only [go_sem,seval]
  cases hr:qO x.r 0 7
  ·try simp only [go_sem,seval,hr]
   refine fz ?_; simp [qX,qQ,qR,qL,-qYj]
   simp [yW,hr]
  try simp only [go_sem,seval,hr,e5]
  refine CA [] (aU x.b) ?_
  try simp only [go_sem,seval]
  cases hb:qO x.b 0 7
  ·try simp only [go_sem,seval,hb]
   refine fz ?_; simp [qX,qQ,qR,qL,-qYj]
   simp [yW,hb]
  try simp only [go_sem,seval,hb,e5]
  refine CA [] (aU x.a) ?_
  try simp only [go_sem,seval]
  cases ha:qO x.a 0 7
  ·by_cases ha1:x.a=-1
   ·try simp only [go_sem,seval,ha,ha1,e5]
    by_cases hn:0≤x.n
    all_goals
     try simp only [go_sem,seval,hn,e5,ha,ha1]
     refine CA [] (yM x.n 0 23) ?_
     try simp only [go_sem,seval]
     cases hc:qO x.n 0 23
     ·try simp only [go_sem,seval,hc,e5,ha,ha1]
      refine fz ?_; simp [qX,qQ,qR,qL,-qYj]
      simp [yW,hc,hr,hb,e5,ha,ha1]
     try simp only [go_sem,seval,hc,e5,ha,ha1]
     refine fz ?_; simp [qX,qQ,qR,qL,-qYj]
     simp [yW,hc,hr,hb,e5,ha,ha1]
   ·try simp only [go_sem,seval,ha,ha1,e5]
    refine fz ?_; simp [qX,qQ,qR,qL,-qYj]
    simp [yW,ha,ha1]
  try simp only [go_sem,seval,ha,e5]
  by_cases hn:0≤x.n
  all_goals
   try simp only [go_sem,seval,hn,e5,ha]
   refine CA [] (yM x.n 0 23) ?_
   try simp only [go_sem,seval]
   cases hc:qO x.n 0 23
   ·try simp only [go_sem,seval,hc,e5,ha]
    refine fz ?_; simp [qX,qQ,qR,qL,-qYj]
    simp [yW,hc,hr,hb,e5,ha]
   try simp only [go_sem,seval,hc,e5,ha]
   refine fz ?_; simp [qX,qQ,qR,qL,-qYj]
   simp [yW,hc,hr,hb,e5,ha]
 by_cases e6:x.op=6
 ·skip
  simp only [go_sem,seval,e6]
  refine CA [] (aU x.r) ?_
  try simp only [go_sem,seval]
  cases hr:qO x.r 0 7
  ·try simp only [go_sem,seval,hr]
   refine fz ?_; simp [qX,qQ,qR,qL,-qYj]
   simp [yW,hr]
  try simp only [go_sem,seval,hr,e6]
  refine CA [] (aU x.b) ?_
  try simp only [go_sem,seval]
  cases hb:qO x.b 0 7
  ·try simp only [go_sem,seval,hb]
   refine fz ?_; simp [qX,qQ,qR,qL,-qYj]
   simp [yW,hb]
  try simp only [go_sem,seval,hb,e6]
  refine CA [] (aU x.a) ?_
  try simp only [go_sem,seval]
  cases ha:qO x.a 0 7
  ·by_cases ha1:x.a=-1
   ·try simp only [go_sem,seval,ha,ha1,e6]
    by_cases hn:0≤x.n
    all_goals
     try simp only [go_sem,seval,hn,e6,ha,ha1]
     refine CA [] (yM x.n 0 23) ?_
     try simp only [go_sem,seval]
     cases hc:qO x.n 0 23
     ·try simp only [go_sem,seval,hc,e6,ha,ha1]
      refine fz ?_; simp [qX,qQ,qR,qL,-qYj]
      simp [yW,hc,hr,hb,e6,ha,ha1]
     try simp only [go_sem,seval,hc,e6,ha,ha1]
     refine fz ?_; simp [qX,qQ,qR,qL,-qYj]
     simp [yW,hc,hr,hb,e6,ha,ha1]
   ·try simp only [go_sem,seval,ha,ha1,e6]
    refine fz ?_; simp [qX,qQ,qR,qL,-qYj]
    simp [yW,ha,ha1]
  try simp only [go_sem,seval,ha,e6]
  by_cases hn:0≤x.n
  all_goals
   try simp only [go_sem,seval,hn,e6,ha]
   refine CA [] (yM x.n 0 23) ?_
   try simp only [go_sem,seval]
   cases hc:qO x.n 0 23
   ·try simp only [go_sem,seval,hc,e6,ha]
    refine fz ?_; simp [qX,qQ,qR,qL,-qYj]
    simp [yW,hc,hr,hb,e6,ha]
   try simp only [go_sem,seval,hc,e6,ha]
   refine fz ?_; simp [qX,qQ,qR,qL,-qYj]
   simp [yW,hc,hr,hb,e6,ha]
 by_cases e7:x.op=7
 ·skip
  simp only [go_sem,seval,e7]
  refine CA [] (aU x.r) ?_
  try simp only [go_sem,seval]
  cases hr:qO x.r 0 7
  ·try simp only [go_sem,seval,hr]
   refine fz ?_; simp [qX,qQ,qR,qL,-qYj]
   simp [yW,hr]
  try simp only [go_sem,seval,hr,e7]
  refine CA [] (aU x.b) ?_
  try simp only [go_sem,seval]
  cases hb:qO x.b 0 7
  ·try simp only [go_sem,seval,hb]
   refine fz ?_; simp [qX,qQ,qR,qL,-qYj]
   simp [yW,hb]
  try simp only [go_sem,seval,hb,e7]
  refine CA [] (aU x.a) ?_
  try simp only [go_sem,seval]
  cases ha:qO x.a 0 7
  ·by_cases ha1:x.a=-1
   ·try simp only [go_sem,seval,ha,ha1,e7]
    by_cases hn:0≤x.n
    all_goals
     try simp only [go_sem,seval,hn,e7,ha,ha1]
     refine CA [] (yM x.n 0 23) ?_
     try simp only [go_sem,seval]
     cases hc:qO x.n 0 23
     ·try simp only [go_sem,seval,hc,e7,ha,ha1]
      refine fz ?_; simp [qX,qQ,qR,qL,-qYj]
      simp [yW,hc,hr,hb,e7,ha,ha1]
     try simp only [go_sem,seval,hc,e7,ha,ha1]
     refine fz ?_; simp [qX,qQ,qR,qL,-qYj]
     simp [yW,hc,hr,hb,e7,ha,ha1]
   ·try simp only [go_sem,seval,ha,ha1,e7]
    refine fz ?_; simp [qX,qQ,qR,qL,-qYj]
    simp [yW,ha,ha1]
  try simp only [go_sem,seval,ha,e7]
  by_cases hn:0≤x.n
  all_goals
   try simp only [go_sem,seval,hn,e7,ha]
   refine CA [] (yM x.n 0 23) ?_
   try simp only [go_sem,seval]
   cases hc:qO x.n 0 23
   ·try simp only [go_sem,seval,hc,e7,ha]
    refine fz ?_; simp [qX,qQ,qR,qL,-qYj]
    simp [yW,hc,hr,hb,e7,ha]
   try simp only [go_sem,seval,hc,e7,ha]
   refine fz ?_; simp [qX,qQ,qR,qL,-qYj]
   simp [yW,hc,hr,hb,e7,ha]
 simp only [go_sem,seval,e5,e6,e7]
 refine CA [] (aU x.r) ?_
 try simp only [go_sem,seval]
 cases hr:qO x.r 0 7
 ·try simp only [go_sem,seval,hr]
  refine fz ?_; simp [qX,qQ,qR,qL,-qYj]
  simp [yW,hr]
 try simp only [go_sem,seval,hr,e5,e6,e7]
 refine CA [] (aU x.b) ?_
 try simp only [go_sem,seval]
 cases hb:qO x.b 0 7
 ·try simp only [go_sem,seval,hb]
  refine fz ?_; simp [qX,qQ,qR,qL,-qYj]
  simp [yW,hb]
 try simp only [go_sem,seval,hb,e5,e6,e7]
 refine CA [] (aU x.a) ?_
 try simp only [go_sem,seval]
 cases ha:qO x.a 0 7
 ·try simp only [go_sem,seval,ha,e5,e6,e7]
  refine fz ?_; simp [qX,qQ,qR,qL,-qYj]
  simp [ha,e5,e6,e7,yW]
 try simp only [go_sem,seval,ha,e5,e6,e7]
 by_cases hn:0≤x.n
 all_goals
  try simp only [go_sem,seval,hn]
  refine CA [] (yM x.n 0 23) ?_
  try simp only [go_sem,seval]
  by_cases e1:x.op=1
  ·skip
   try simp only [go_sem,seval,e5,e6,e7,ha,hn,e1]
   refine CA [] (yM x.n (-1000000000) 1000000000) ?_
   try simp only [go_sem,seval]
   cases hw:qO x.n (-1000000000) 1000000000
   ·try simp only [go_sem,seval,hw]
    refine fz ?_; simp [qX,qQ,qR,qL,-qYj]
    simp [yW,hw,hr,hb,e5,e6,e7,ha,hn,e1]
   try simp only [go_sem,seval,hw]
   by_cases q0:x.a=0
   case neg =>
    try simp only [go_sem,seval,q0,e5,e6,e7,ha,hn,e1,hw]
    refine fz ?_; simp [qX,qQ,qR,qL,-qYj]
    simp [yW,hr,hb,e5,e6,e7,ha,hn,e1,hw,q0]
   by_cases q1:x.b=0
   case neg =>
    try simp only [go_sem,seval,q1,e5,e6,e7,ha,hn,e1,hw,q0]
    refine fz ?_; simp [qX,qQ,qR,qL,-qYj]
    simp [yW,hr,hb,e5,e6,e7,ha,hn,e1,hw,q0,q1]
   try simp only [go_sem,seval,e5,e6,e7,ha,hn,e1,hw,q0,q1]
   refine fz ?_; simp [qX,qQ,qR,qL,-qYj]
   simp [yW,hr,hb,hz,e5,e6,e7,ha,hn,e1,hw,q0,q1]
  by_cases e2:x.op=2
  ·skip
   try simp only [go_sem,seval,e5,e6,e7,ha,hn,e1,e2]
   refine fz ?_; simp [qX,qQ,qR,qL,-qYj]
   simp [yW,hr,hb,e5,e6,e7,ha,hn,e1,e2]
  by_cases e3:x.op=3
  ·skip
   try simp only [go_sem,seval,e5,e6,e7,ha,hn,e1,e2,e3]
   refine fz ?_; simp [qX,qQ,qR,qL,-qYj]
   simp [yW,hr,hb,e5,e6,e7,ha,hn,e1,e2,e3]
  by_cases e4:x.op=4
  ·skip
   try simp only [go_sem,seval,e5,e6,e7,ha,hn,e1,e2,e3,e4]
   refine fz ?_; simp [qX,qQ,qR,qL,-qYj]
   simp [yW,hr,hb,e5,e6,e7,ha,hn,e1,e2,e3,e4]
  by_cases e8:x.op=8
  ·skip
   cases hc:qO x.n 0 23
   ·try simp only [go_sem,seval,hc,e5,e6,e7,ha,hn,e1,e2,e3,e4,e8]
    refine fz ?_; simp [qX,qQ,qR,qL,-qYj]
    simp [yW,hc,hr,hb,e5,e6,e7,ha,hn,e1,e2,e3,e4,e8]
   try simp only [go_sem,seval,hc,e5,e6,e7,ha,hn,e1,e2,e3,e4,e8]
   refine fz ?_; simp [qX,qQ,qR,qL,-qYj]
   simp [yW,hc,hr,hb,e5,e6,e7,ha,hn,e1,e2,e3,e4,e8]
  by_cases e9:x.op=9
  ·skip
   try simp only [go_sem,seval,e5,e6,e7,ha,hn,e1,e2,e3,e4,e8,e9]
   by_cases q0:x.r=0
   case neg =>
    try simp only [go_sem,seval,q0,e5,e6,e7,ha,hn,e1,e2,e3,e4,e8,e9]
    refine fz ?_; simp [qX,qQ,qR,qL,-qYj]
    simp [yW,hr,hb,e5,e6,e7,ha,hn,e1,e2,e3,e4,e8,e9,q0]
   by_cases q1:x.b=0
   case neg =>
    try simp only [go_sem,seval,q1,e5,e6,e7,ha,hn,e1,e2,e3,e4,e8,e9,q0]
    refine fz ?_; simp [qX,qQ,qR,qL,-qYj]
    simp [yW,hr,hb,e5,e6,e7,ha,hn,e1,e2,e3,e4,e8,e9,q0,q1]
   by_cases q2:x.n=0
   case neg =>
    try simp only [go_sem,seval,q2,e5,e6,e7,ha,hn,e1,e2,e3,e4,e8,e9,q0,q1]
    refine fz ?_; simp [qX,qQ,qR,qL,-qYj]
    simp [yW,hr,hb,e5,e6,e7,ha,hn,e1,e2,e3,e4,e8,e9,q0,q1,q2]
   try simp only [go_sem,seval,e5,e6,e7,ha,hn,e1,e2,e3,e4,e8,e9,q0,q1,q2]
   refine fz ?_; simp [qX,qQ,qR,qL,-qYj]
   simp [yW,hr,hb,hz,e5,e6,e7,ha,hn,e1,e2,e3,e4,e8,e9,q0,q1,q2]
  by_cases e10:x.op=10
  ·skip
   by_cases hp:x.n<pl
   all_goals
    try simp only [go_sem,seval,hp,e5,e6,e7,ha,hn,e1,e2,e3,e4,e8,e9,e10]
    repeat' (first
     | (simp only [go_sem,seval,hp,hn])
     | (refine qM (fun hc=>?_) (fun hc=>?_)<;>((try simp only [qYl,qYm,ne_eq,qYn,qYo] at hc)<;>(try simp only [hc])))
     | (refine uH (fun hc=>?_) (fun hc=>?_)<;>((try simp only [qYl,qYm,ne_eq,qYn,qYo] at hc)<;>(try simp only [hc])))
     | (refine vP (fun hc=>?_) (fun hc=>?_)<;>((try simp only [qYl,qYm,ne_eq,qYn,qYo] at hc)<;>(try simp only [hc])))
     | (refine ⟨by first | omega | (simp; done),?_⟩)
     | fail)
    all_goals (refine fz ?_; simp [qX,qQ,qR,qL,-qYj])
    all_goals (simp [yW,hr,hb,hp,e5,e6,e7,ha,hn,e1,e2,e3,e4,e8,e9,e10, *]; try omega)
  by_cases e11:x.op=11
  ·skip
   by_cases hp:x.n<pl
   all_goals
    try simp only [go_sem,seval,hp,e5,e6,e7,ha,hn,e1,e2,e3,e4,e8,e9,e10,e11]
    repeat' (first
     | (simp only [go_sem,seval,hp,hn])
     | (refine qM (fun hc=>?_) (fun hc=>?_)<;>((try simp only [qYl,qYm,ne_eq,qYn,qYo] at hc)<;>(try simp only [hc])))
     | (refine uH (fun hc=>?_) (fun hc=>?_)<;>((try simp only [qYl,qYm,ne_eq,qYn,qYo] at hc)<;>(try simp only [hc])))
     | (refine vP (fun hc=>?_) (fun hc=>?_)<;>((try simp only [qYl,qYm,ne_eq,qYn,qYo] at hc)<;>(try simp only [hc])))
     | (refine ⟨by first | omega | (simp; done),?_⟩)
     | fail)
    all_goals (refine fz ?_; simp [qX,qQ,qR,qL,-qYj])
    all_goals (simp [yW,hr,hb,hp,e5,e6,e7,ha,hn,e1,e2,e3,e4,e8,e9,e10,e11, *]; try omega)
  by_cases e12:x.op=12
  ·skip
   try simp only [go_sem,seval,e5,e6,e7,ha,hn,e1,e2,e3,e4,e8,e9,e10,e11,e12]
   refine fz ?_; simp [qX,qQ,qR,qL,-qYj]
   simp [yW,hr,hb,e5,e6,e7,ha,hn,e1,e2,e3,e4,e8,e9,e10,e11,e12]
  by_cases e13:x.op=13
  ·skip
   try simp only [go_sem,seval,e5,e6,e7,ha,hn,e1,e2,e3,e4,e8,e9,e10,e11,e12,e13]
   refine fz ?_; simp [qX,qQ,qR,qL,-qYj]
   simp [yW,hr,hb,e5,e6,e7,ha,hn,e1,e2,e3,e4,e8,e9,e10,e11,e12,e13]
  try simp only [go_sem,seval,e5,e6,e7,ha,hn,e1,e2,e3,e4,e8,e9,e10,e11,e12,e13]
  refine fz ?_; simp [qX,qQ,qR,qL,-qYj]
  simp [yW,e5,e6,e7,ha,hn,e1,e2,e3,e4,e8,e9,e10,e11,e12,e13]
end Go.Sep
