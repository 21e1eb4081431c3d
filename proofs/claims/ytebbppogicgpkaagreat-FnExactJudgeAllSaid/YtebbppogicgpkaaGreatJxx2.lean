/- Contracts of functions. -/
import Derived.Test.YtebbppogicgpkaaGreatJxx0
open Bool renaming not_eq_false → qYo, not_eq_false' → qYm, not_eq_true → qYn, not_eq_true' → qYl
namespace Go.Sep
set_option maxHeartbeats 16000000
open Go.Proofs
set_option linter.unusedSimpArgs false
set_option linter.unusedVariables false
set_option maxRecDepth 100000
def m92:MFn:=⟨174,[.t 6],kr [xb 3 0,xF 6] (.seq (kr [xa 9 1 3,xl 10 9,xc3 11 64 (.t 10) (xi 0) (xi 3),xN 12 11,xv 13 12,za 14 2 3 13,zl 15 1 14 13,xg 16 (.call 64 [false,false,false] [.t 15,xi 0,xi 3]) 13 false,zN 17 16 13,xQ 18 13 17,xv 19 18,za 20 3 3 19,zl 21 1 20 19,xg 22 (.call 64 [false,false,false] [.t 21,xi 0,xi 3]) 19 false,zN 23 22 19,xQ 24 19 23,xv 25 24,zv 26 2 25,xg 27 (.call 64 [false,false,false] [.t 26,xi 0,xi 3]) 25 false,zN 28 27 25,xQ 29 25 28] (kF 29 [xF 6])) (kr [xa 30 4 3,xl 31 30,bI 32 .geq 31 0,xv 33 32,ya 34 4 3 33,yl 35 1 34 33,yv 36 1 33,xg 37 (.bin .lss (.t 35) (.t 36)) 33 true,xP 38 33 37,xv 7 38] (kr [xa 39 4 3,xl 40 39,xv 41 2,bI 42 .sub 41 1,xc3 43 64 (.t 40) (xi 0) (.t 42),xv 8 43] (.seq (kr [xa 44 0 3,xl 45 44] (.blk 0 (kr [bI 47 .eql 45 1,xv 46 47] (.cond 46 (kR [xa 48 4 3,xl 49 48,xc3 50 64 (.t 49) (.c (.int .i64 (-1000000000))) (xi 1000000000),xv 51 50,ya 52 2 3 51,yl 53 1 52 51,yI 54 .eql 53 0 51,xP 55 51 54,xv 56 55,ya 57 3 3 56,yl 58 1 57 56,yI 59 .eql 58 0 56,xP 60 56 59,xv 6 60]) (.seq (kr [bI 62 .eql 45 2,xv 61 62] (.cond 61 (.skip) (kr [bI 63 .eql 45 3,xv 61 63] (.cond 61 (.skip) (xr [bI 64 .eql 45 4,xv 61 64]))))) (.cond 61 (kR [xa 65 4 3,xl 66 65,bI 67 .eql 66 0,xv 6 67]) (kr [bI 69 .eql 45 5,xv 68 69] (.cond 68 (kR [xv 70 8,xv 71 70,ya 72 1 3 71,yl 73 1 72 71,yI 74 .eql 73 0 71,xP 75 71 74,xv 76 75,ya 77 3 3 76,yl 78 1 77 76,yI 79 .eql 78 0 76,xP 80 76 79,xv 6 80]) (.seq (kr [bI 82 .eql 45 6,xv 81 82] (.cond 81 (.skip) (xr [bI 83 .eql 45 8,xv 81 83]))) (.cond 81 (kR [xv 84 8,xv 85 84,ya 86 2 3 85,yl 87 1 86 85,yI 88 .eql 87 0 85,xP 89 85 88,xv 90 89,ya 91 1 3 90,yl 92 1 91 90,ya 93 3 3 90,yl 94 1 93 90,xg 95 (.bin .neq (.t 92) (.t 94)) 90 true,xP 96 90 95,xv 6 96]) (kr [bI 98 .eql 45 7,xv 97 98] (.cond 97 (kR [xv 99 8,xv 100 99,ya 101 3 3 100,yl 102 1 101 100,yI 103 .eql 102 0 100,xP 104 100 103,xv 6 104]) (kr [bI 106 .eql 45 9,xv 105 106] (.cond 105 (kR [xv 107 8,xv 108 107,ya 109 1 3 108,yl 110 1 109 108,yI 111 .eql 110 0 108,xP 112 108 111,xv 113 112,ya 114 2 3 113,yl 115 1 114 113,yI 116 .eql 115 0 113,xP 117 113 116,xv 118 117,ya 119 3 3 118,yl 120 1 119 118,yI 121 .eql 120 0 118,xP 122 118 121,xv 6 122]) (kr [bI 124 .eql 45 10,xv 123 124] (.cond 123 (kR [xa 125 1 3,xl 126 125,bI 127 .eql 126 0,xv 128 127,ya 129 3 3 128,yl 130 1 129 128,yI 131 .eql 130 0 128,xP 132 128 131,xv 133 132,ya 134 4 3 133,yl 135 1 134 133,yI 136 .eql 135 0 133,xP 137 133 136,xv 6 137]) (kr [bI 139 .eql 45 11,xv 138 139] (.cond 138 (kR [xv 140 7,xv 141 140,ya 142 1 3 141,yl 143 1 142 141,yI 144 .eql 143 0 141,xP 145 141 144,xv 146 145,ya 147 2 3 146,yl 148 1 147 146,yI 149 .eql 148 0 146,xP 150 146 149,xv 151 150,ya 152 3 3 151,yl 153 1 152 151,yI 154 .eql 153 0 151,xP 155 151 154,xv 6 155]) (kr [bI 157 .eql 45 12,xv 156 157] (.cond 156 (kR [xv 158 7,xv 159 158,ya 160 1 3 159,yl 161 1 160 159,yI 162 .eql 161 0 159,xP 163 159 162,xv 164 163,ya 165 3 3 164,yl 166 1 165 164,yI 167 .eql 166 0 164,xP 168 164 167,xv 6 168]) (kr [bI 170 .eql 45 13,xv 169 170] (kF 169 [xm 171 5 3,xo 172 (.build [xz,xz,xz,xz,xz] [(0,1,xi 13)]),xo 173 (.eqS false [true,true,true,true,true] (.t 171) (.t 172)),xv 6 173])))))))))))))))))))))) (kR [xF 6])))))⟩
theorem qBl (x:Ins) (pl ch:Int) (h0:-(2^62)≤ch) (h1:ch<2^62):qU Tryz.prog num 92 [.agg (cJ x),.int .i64 pl,.int .i64 ch] [] (.bool (zA x pl ch)):=by
 refine EN m92 Tryz.func198 ?_
 unfold m92
 have hw:IntKind.i64.wrap (ch-1)=ch-1:=wM (by omega) (by omega)
 repeat' (first
  | (simp only [go_sem,seval,hw])
  | (refine qM (fun hc=>?_) (fun hc=>?_)<;>((try simp only [qYl,qYm,ne_eq,qYn,qYo] at hc)<;>(try simp only [hc])))
  | (refine uH (fun hc=>?_) (fun hc=>?_)<;>((try simp only [qYl,qYm,ne_eq,qYn,qYo] at hc)<;>(try simp only [hc])))
  | (refine vP (fun hc=>?_) (fun hc=>?_)<;>((try simp only [qYl,qYm,ne_eq,qYn,qYo] at hc)<;>(try simp only [hc])))
  | (refine gY (yM _ _ _) rfl rfl rfl rfl ?_)
  | (refine bH (yM _ _ _) rfl rfl rfl rfl ?_)
  | (refine ⟨by first | omega | (simp; done),?_⟩)
  | fail)
 all_goals (refine fz ?_; simp [qX,qQ,qR,qL,-List.drop_one])
 all_goals (try (simp_all [zA]; done))
 all_goals (try (simp_all [zA]; omega))
end Go.Sep
