/- Contracts of functions. -/
import Derived.Test.YtjbknbgdfhihcaaGreatJxx10
import Derived.Test.YtjbknbgdfhihcaaGreatJxx15
namespace Go.Sep
set_option maxHeartbeats 16000000
open Go.Proofs
set_option linter.unusedSimpArgs false
set_option linter.unusedVariables false
set_option maxRecDepth 100000
open Nat renaming reduceAdd → qA, reduceMul → qB, reduceEqDiff → qC, reduceBEq → qD
open Int renaming reduceToNat → qE, reduceEq → qF, reduceLT → qG, reduceLE → qH
open List renaming getD_eq_getElem?_getD → gD
theorem startsN_take (b:List Ins) (n m:Nat) (h:m≤n):(startsN b n).take m=startsN b m:=by
 apply List.ext_getElem (by simp [startsN]; omega)
 intro i h1 h2
 simp [startsN]
def single (x:Ins) (starts:List Int):Step :=
 if x.op=1 then ⟨1,x.r,0,0,x.n⟩ else if x.op=2 then ⟨2,x.r,x.a,x.b,0⟩ else if x.op=3 then ⟨3,x.r,x.a,x.b,0⟩ else if x.op=4 then ⟨4,x.r,x.a,x.b,0⟩
 else if x.op=10 then ⟨9,0,x.a,0,0⟩ else if x.op=11 then ⟨10,0,0,0,starts.getD x.n.toNat 0⟩ else if x.op=12 then ⟨11,0,x.a,0,starts.getD x.n.toNat 0⟩ else ⟨12,0,0,0,0⟩
def emit (caps:List Int) (x:Ins) (f:Int) (starts:List Int):List Step :=
 if insOk x starts.length caps.length then
  if within x.op 5 9 then
   if base caps x.n<0 then []
   else lockL f (base caps x.n)++(if x.op=5∨x.op=7 then sendL f (base caps x.n) (caps.getD x.n.toNat 0) x else if x.op=6∨x.op=8 then takeL f (base caps x.n) (caps.getD x.n.toNat 0) x else closeL f (base caps x.n))
  else [single x starts]
 else []
theorem emit_len (caps:List Int) (x:Ins) (f:Int) (starts:List Int):(emit caps x f starts).length≤40:=by
 unfold emit
 repeat' split
 all_goals simp [lockL,sendL,takeL,closeL,shutL,letL]
 all_goals (try split)
 all_goals simp
def compN (caps:List Int) (b:List Ins):Nat→List Step
 | 0=>[]
 | i+1=>compN caps b i++emit caps (b.getD i default) (szB (b.take i)) (startsOf b)
def comp (caps:List Int) (b:List Ins):List Step:=compN caps b b.length
theorem compN_len (caps:List Int) (b:List Ins) :∀i,(compN caps b i).length≤40*i
 | 0=>by simp [compN]
 | i+1=>by
  have:=compN_len caps b i
  have:=emit_len caps (b.getD i default) (szB (b.take i)) (startsOf b)
  simp only [compN,List.length_append]
  omega
theorem progOk_caps {p:Prog} (h:progOk p=true):capsOk p.caps=true∧p.caps.length≤3∧p.bods.length≤4∧1≤p.bods.length∧∀b∈p.bods,bodyOk b p.caps.length=true:=by
 unfold progOk at h
 simp only [Bool.and_eq_true,within_iff,decide_eq_true_eq,List.all_eq_true] at h
 exact ⟨h.1.2,by omega,by omega,by omega,h.1.1.1⟩
theorem base0_neg {p:Prog} (h:progOk p=true):(decide (0<(p.caps.length:Int))&&decide (base p.caps 0<0))=!lieOk p.caps:=by
 have hc:=(progOk_caps h).1
 cases hl:lieOk p.caps with
 | false =>
  have hlen:0<p.caps.length:=by
   apply Nat.pos_of_ne_zero
   intro e
   have e':p.caps=[]:=List.eq_nil_of_length_eq_zero e
   unfold lieOk at hl
   rw [hc,e'] at hl
   simp [sumC] at hl
  have hb:base p.caps 0=-1:=by unfold base; rw [hl,Bool.and_false]; rfl
  rw [hb]
  simp
  omega
 | true =>
  by_cases hlen:0<p.caps.length
  ·have hb:base p.caps 0=0:=by
    unfold base
    have hw:within 0 0 ((p.caps.length:Int)-1)=true:=by rw [within_iff]; omega
    rw [hl,hw]
    rfl
   rw [hb]
   simp
  ·simp; omega
def m162:MFn:=⟨70,[.t 2,.t 3],kr [xb 1 0,xo 2 (.mv (.c (.nil))),xF 3] (kr [xo 10 (.mkSl [.nil] 0 []),xv 4 10] (.seq (kr [xm 11 2 1,xc1 12 62 (.t 11),xN 13 12,xv 14 13,za 15 0 1 14,zl 16 1 15 14,xg 17 (.call 202 [false] [.t 16]) 14 false,zN 18 17 14,xQ 19 14 18] (kF 19 [xv 20 4,xv 2 20,xF 3])) (kr [xv 21 4,xv 5 21] (.seq (kr [xI 6 0] (.blk 0 (.loop (.seq (kr [xv 22 6,xa 23 1 1,xl 24 23,xe 25 24,bT 26 .lss 22 25] (kX 26 0)) (.seq (.blk 1 (kr [xm 29 2 1,xv 30 6,xc2 31 203 (.t 29) (.t 30),xv 7 31] (kr [xo 32 (.mkSl [xz,xz,xz,xz,xz] 0 []),xv 8 32] (.seq (kr [xI 9 0] (.blk 2 (.loop (.seq (kr [xv 33 9,xa 34 1 1,xl 35 34,xv 36 6,xD 37 1 35 36,xl 38 37,xe 39 38,bT 40 .lss 33 39] (kX 40 2)) (.seq (.blk 3 (.dreg (.take 0 (xv 43 8) (.take 1 (xa 44 0 1) (.take 2 (xl 45 44) (.take 3 (xa 46 1 1) (.take 4 (xl 47 46) (.take 5 (xv 48 6) (.take 6 (xD 49 1 47 48) (.take 7 (xl 50 49) (.take 8 (xv 51 9) (.take 9 (xD 52 5 50 51) (.take 10 (xm 53 5 52) (.take 11 (xv 54 7) (.take 12 (xv 55 9) (.take 13 (xD 56 1 54 55) (.take 14 (xl 57 56) (.only 15 [] (xv 58 7) (.only 16 [2,10,14,1,9,13,7,8,11,12,6,4,5,3] (xo 59 (.call 204 [false,false,false,false] [.t 45,.t 53,.t 57,.t 58])) (.only 17 [0,16,2,10,14,1,9,13,7,8,11,12,6,4,5,3] (xA 60 5 40 43 59) (.only 18 [0,1,2,3,4,5,6,7,8,9,10,11,12,13,14] (xv 8 60) (.done)))))))))))))))))))))) (xr [xv 41 9,bI 42 .add 41 1,xv 9 42])))))) (.seq (kr [xv 61 8,xc1 62 205 (.t 61),xN 63 62] (kF 63 [xo 64 (.mkSl [.nil] 0 []),xv 2 64,xF 3])) (xr [xv 65 5,xv 66 8,xo 67 (.mkSl [.nil] 1 [(0,.t 66)]),xA 68 1 24 65 67,xv 5 68])))))) (xr [xv 27 6,bI 28 .add 27 1,xv 6 28])))))) (kR [xv 69 5,xv 2 69,xT 3])))))⟩
def m163:MFn:=⟨65,[.t 2,.t 3],kr [xb 1 0,xo 2 (.mv (.c (.nil))),xF 3] (.seq (kr [xm 11 2 1,xc1 12 48 (.t 11),xN 13 12,xv 14 13,za 15 0 1 14,zl 16 1 15 14,ze 17 16 14,zI 18 .gtr 17 0 14,zv 19 18 14,ya 20 0 1 19,yl 21 1 20 19,xg 22 (.call 206 [false,false] [.t 21,xi 0]) 19 true,yI 23 .lss 22 0 19,xg 24 (.pick (.t 19) (.t 23) (.c (.bool false))) 14 false,xQ 25 14 24] (kF 25 [xo 2 (.mv (.c (.nil))),xF 3])) (kr [xo 26 (.mkSl [.nil] 0 []),xv 4 26] (.seq (kr [xa 27 1 1,xl 28 27,xe 29 28,xI 30 0] (.blk 0 (.loop (kr [bT 31 .lss 30 29] (.seq (kX 31 0) (.seq (.blk 1 (kr [xD 32 1 28 30,xl 33 32,xv 6 33] (kr [xv 34 6,xc1 35 207 (.t 34),xv 7 35] (kr [xo 36 (.mkSl [xz,xz,xz,xz,xz] 0 []),xv 8 36] (.seq (kr [xv 37 6,xe 38 37,xI 39 0] (.blk 2 (.loop (kr [bT 40 .lss 39 38] (.seq (kX 40 2) (.seq (.blk 3 (kr [xv 41 39,xD 42 5 37 39,xm 43 5 42,xo 10 (.alloc [xz,xz,xz,xz,xz]),xv 9 41,xS 5 10 43] (.dreg (.take 0 (xv 44 8) (.take 1 (xa 45 0 1) (.take 2 (xl 46 45) (.take 3 (xm 47 5 10) (.take 4 (xv 48 7) (.take 5 (xv 49 9) (.take 6 (xD 50 1 48 49) (.take 7 (xl 51 50) (.only 8 [] (xv 52 7) (.only 9 [2,3,7,1,6,4,5] (xo 53 (.call 208 [false,false,false,false] [.t 46,.t 47,.t 51,.t 52])) (.only 10 [0,9,2,3,7,1,6,4,5] (xA 54 5 40 44 53) (.only 11 [0,1,2,3,4,5,6,7] (xv 8 54) (.done)))))))))))))))) (xr [bI 55 .add 39 1,xv 39 55]))))))) (.seq (kr [xv 56 8,xc1 57 209 (.t 56),xN 58 57] (kF 58 [xo 2 (.mv (.c (.nil))),xF 3])) (xr [xv 59 4,xv 60 8,xo 61 (.mkSl [.nil] 1 [(0,.t 60)]),xA 62 1 24 59 61,xv 4 62]))))))) (xr [bI 63 .add 30 1,xv 30 63]))))))) (kR [xv 64 4,xv 2 64,xT 3]))))⟩
def m203:MFn:=⟨32,[.t 4],kr [xb 2 0,xo 4 (.mv (.c (.nil)))] (.seq (kr [xm 6 2 2,xc1 7 62 (.t 6),xN 8 7,xv 9 8,zv 10 1 9,za 11 1 2 9,zl 12 1 11 9,ze 13 12 9,zI 14 .sub 13 1 9,xg 15 (.call 64 [false,false,false] [.t 10,xi 0,.t 14]) 9 false,zN 16 15 9,xQ 17 9 16] (kF 17 [xo 18 (.mkSl [xz] 0 []),xv 4 18])) (kr [xa 19 1 2,xl 20 19,xv 21 1,xD 22 1 20 21,xl 23 22,xc1 24 252 (.t 23),xv 5 24] (kR [xo 25 (.mkSl [xz] 0 []),xv 26 5,xv 27 5,xe 28 27,bI 29 .sub 28 1,xo 30 (.cut 1 (.t 26) none (some (.t 29))),xA 31 1 8 25 30,xv 4 31])))⟩
def m204:MFn:=⟨126,[.t 8],kr [xb 5 1,xo 8 (.mv (.c (.nil)))] (kr [xo 11 (.mkSl [xz,xz,xz,xz,xz] 0 []),xv 9 11] (.seq (kr [xm 12 5 5,xv 13 3,xe 14 13,xv 15 0,xe 16 15,xc3 17 92 (.t 12) (.t 14) (.t 16),xN 18 17] (kF 18 [xv 19 9,xv 8 19])) (.seq (kr [xa 20 0 5,xl 21 20] (.blk 0 (kr [bI 23 .eql 21 1,xv 22 23] (.cond 22 (kR [xa 24 1 5,xl 25 24,xa 26 4 5,xl 27 26,xc2 28 253 (.t 25) (.t 27),xo 29 (.mkSl [xz,xz,xz,xz,xz] 1 [(0,.t 28)]),xv 8 29]) (kr [bI 31 .eql 21 2,xv 30 31] (.cond 30 (kR [xa 32 1 5,xl 33 32,xa 34 2 5,xl 35 34,xa 36 3 5,xl 37 36,xo 38 (.call 254 [false,false,false,false] [xi 2,.t 33,.t 35,.t 37]),xo 39 (.mkSl [xz,xz,xz,xz,xz] 1 [(0,.t 38)]),xv 8 39]) (kr [bI 41 .eql 21 3,xv 40 41] (.cond 40 (kR [xa 42 1 5,xl 43 42,xa 44 2 5,xl 45 44,xa 46 3 5,xl 47 46,xo 48 (.call 254 [false,false,false,false] [xi 3,.t 43,.t 45,.t 47]),xo 49 (.mkSl [xz,xz,xz,xz,xz] 1 [(0,.t 48)]),xv 8 49]) (kr [bI 51 .eql 21 4,xv 50 51] (.cond 50 (kR [xa 52 1 5,xl 53 52,xa 54 2 5,xl 55 54,xa 56 3 5,xl 57 56,xo 58 (.call 254 [false,false,false,false] [xi 4,.t 53,.t 55,.t 57]),xo 59 (.mkSl [xz,xz,xz,xz,xz] 1 [(0,.t 58)]),xv 8 59]) (kr [bI 61 .eql 21 10,xv 60 61] (.cond 60 (kR [xa 62 2 5,xl 63 62,xo 64 (.build [xz,xz,xz,xz,xz] [(0,1,xi 9),(2,1,.t 63)]),xo 65 (.mkSl [xz,xz,xz,xz,xz] 1 [(0,.t 64)]),xv 8 65]) (kr [bI 67 .eql 21 11,xv 66 67] (.cond 66 (kR [xv 68 3,xa 69 4 5,xl 70 69,xD 71 1 68 70,xl 72 71,xc1 73 255 (.t 72),xo 74 (.mkSl [xz,xz,xz,xz,xz] 1 [(0,.t 73)]),xv 8 74]) (kr [bI 76 .eql 21 12,xv 75 76] (.cond 75 (.seq (.dreg (.take 0 (xa 77 2 5) (.take 1 (xl 78 77) (.take 2 (xv 79 3) (.only 3 [] (xa 80 4 5) (.only 4 [] (xl 81 80) (.only 5 [2] (xD 82 1 79 81) (.only 6 [5,2] (xl 83 82) (.only 7 [1,6,0,5,2] (xc2 84 256 (.t 78) (.t 83)) (.only 8 [7,1,6,0,5,2] (xo 85 (.mkSl [xz,xz,xz,xz,xz] 1 [(0,.t 84)])) (.only 9 [0,1,2] (xv 8 85) (.done)))))))))))) (.ret)) (kr [bI 87 .eql 21 13,xv 86 87] (kF 86 [xo 88 (.build [xz,xz,xz,xz,xz] [(0,1,xi 12)]),xo 89 (.mkSl [xz,xz,xz,xz,xz] 1 [(0,.t 88)]),xv 8 89])))))))))))))))))) (kr [xv 90 0,xa 91 4 5,xl 92 91,xc2 93 257 (.t 90) (.t 92),xv 10 93] (.seq (kr [xv 94 10,bI 95 .lss 94 0] (kF 95 [xv 96 9,xv 8 96])) (.seq (kr [xa 97 0 5,xl 98 97] (.blk 1 (.seq (kr [bI 100 .eql 98 5,xv 99 100] (.cond 99 (.skip) (xr [bI 101 .eql 98 7,xv 99 101]))) (.cond 99 (.seq (.dreg (.take 0 (xm 102 5 5) (.take 1 (xv 103 10) (.take 2 (xv 104 0) (.take 3 (xa 105 4 5) (.take 4 (xl 106 105) (.take 5 (xD 107 1 104 106) (.take 6 (xl 108 107) (.only 7 [] (xv 109 2) (.only 8 [0,1,6,5,2,4,3] (xo 110 (.call 258 [false,false,false,false] [.t 102,.t 103,.t 108,.t 109])) (.only 9 [0,1,2,3,4,5,6] (xv 8 110) (.done)))))))))))) (.ret)) (.seq (kr [bI 112 .eql 98 6,xv 111 112] (.cond 111 (.skip) (xr [bI 113 .eql 98 8,xv 111 113]))) (.cond 111 (.seq (.dreg (.take 0 (xm 114 5 5) (.take 1 (xv 115 10) (.take 2 (xv 116 0) (.take 3 (xa 117 4 5) (.take 4 (xl 118 117) (.take 5 (xD 119 1 116 118) (.take 6 (xl 120 119) (.only 7 [] (xv 121 2) (.only 8 [0,1,6,5,2,4,3] (xo 122 (.call 259 [false,false,false,false] [.t 114,.t 115,.t 120,.t 121])) (.only 9 [0,1,2,3,4,5,6] (xv 8 122) (.done)))))))))))) (.ret)) (.skip))))))) (kR [xv 123 10,xv 124 2,xc2 125 260 (.t 123) (.t 124),xv 8 125])))))))⟩
def m208:MFn:=⟨63,[.t 8],kr [xb 5 1,xo 8 (.mv (.c (.nil)))] (.seq (kr [xm 11 5 5,xv 12 3,xe 13 12,xv 14 0,xe 15 14,xc3 16 88 (.t 11) (.t 13) (.t 15),xN 17 16] (kF 17 [xo 8 (.mv (.c (.nil)))])) (.seq (kr [xa 18 0 5,xl 19 18,xc1 20 44 (.t 19),xN 21 20] (kF 21 [xm 22 5 5,xv 23 3,xc2 24 263 (.t 22) (.t 23),xo 25 (.mkSl [xz,xz,xz,xz,xz] 1 [(0,.t 24)]),xv 8 25])) (kr [xv 26 0,xa 27 4 5,xl 28 27,xc2 29 206 (.t 26) (.t 28),xv 9 29] (.seq (kr [xv 30 9,bI 31 .lss 30 0] (kF 31 [xo 8 (.mv (.c (.nil)))])) (kr [xv 32 2,xv 33 9,xv 34 0,xa 35 4 5,xl 36 35,xD 37 1 34 36,xl 38 37,xo 39 (.build [.nil,.int .i64 0,.int .i64 0,.int .i64 0] [(1,1,.t 32),(2,1,.t 33),(3,1,.t 38)]),xb 40 39,xv 10 40] (kr [xv 41 10,xo 42 (.call 264 [true] [.t 41])] (.seq (kr [xa 43 0 5,xl 44 43] (.blk 0 (.seq (kr [bI 48 .eql 44 5,xv 47 48] (.cond 47 (.skip) (xr [bI 49 .eql 44 7,xv 47 49]))) (.cond 47 (xr [xv 50 10,xm 51 5 5,xo 52 (.call 265 [true,false] [.t 50,.t 51])]) (.seq (kr [bI 54 .eql 44 6,xv 53 54] (.cond 53 (.skip) (xr [bI 55 .eql 44 8,xv 53 55]))) (.cond 53 (xr [xv 56 10,xm 57 5 5,xo 58 (.call 266 [true,false] [.t 56,.t 57])]) (xr [xv 45 10,xo 46 (.call 267 [true] [.t 45])]))))))) (kR [xv 59 10,xk 60 59,xa 61 0 60,xl 62 61,xv 8 62]))))))))⟩
def m263:MFn:=⟨65,[.cell 4 5 true],kr [xb 2 0,xo 4 (.alloc [xz,xz,xz,xz,xz])] (.seq (kr [xa 5 0 2,xl 6 5] (.blk 0 (kr [bI 8 .eql 6 1,xv 7 8] (.cond 7 (kR [xa 9 1 2,xl 10 9,xa 11 4 2,xl 12 11,xo 13 (.build [xz,xz,xz,xz,xz] [(0,1,xi 1),(1,1,.t 10),(4,1,.t 12)]),xS 5 4 13]) (kr [bI 15 .eql 6 2,xv 14 15] (.cond 14 (kR [xa 16 1 2,xl 17 16,xa 18 2 2,xl 19 18,xa 20 3 2,xl 21 20,xo 22 (.build [xz,xz,xz,xz,xz] [(0,1,xi 2),(1,1,.t 17),(2,1,.t 19),(3,1,.t 21)]),xS 5 4 22]) (kr [bI 24 .eql 6 3,xv 23 24] (.cond 23 (kR [xa 25 1 2,xl 26 25,xa 27 2 2,xl 28 27,xa 29 3 2,xl 30 29,xo 31 (.build [xz,xz,xz,xz,xz] [(0,1,xi 3),(1,1,.t 26),(2,1,.t 28),(3,1,.t 30)]),xS 5 4 31]) (kr [bI 33 .eql 6 4,xv 32 33] (.cond 32 (kR [xa 34 1 2,xl 35 34,xa 36 2 2,xl 37 36,xa 38 3 2,xl 39 38,xo 40 (.build [xz,xz,xz,xz,xz] [(0,1,xi 4),(1,1,.t 35),(2,1,.t 37),(3,1,.t 39)]),xS 5 4 40]) (kr [bI 42 .eql 6 10,xv 41 42] (.cond 41 (kR [xa 43 2 2,xl 44 43,xo 45 (.build [xz,xz,xz,xz,xz] [(0,1,xi 9),(2,1,.t 44)]),xS 5 4 45]) (kr [bI 47 .eql 6 11,xv 46 47] (.cond 46 (kR [xv 48 1,xa 49 4 2,xl 50 49,xD 51 1 48 50,xl 52 51,xo 53 (.build [xz,xz,xz,xz,xz] [(0,1,xi 10),(4,1,.t 52)]),xS 5 4 53]) (kr [bI 55 .eql 6 12,xv 54 55] (.cond 54 (.seq (.dreg (.take 0 (xa 56 2 2) (.take 1 (xl 57 56) (.take 2 (xv 58 1) (.only 3 [] (xa 59 4 2) (.only 4 [] (xl 60 59) (.only 5 [2] (xD 61 1 58 60) (.only 6 [5,2] (xl 62 61) (.only 7 [1,6,0,5,2] (xo 63 (.build [xz,xz,xz,xz,xz] [(0,1,xi 11),(2,1,.t 57),(4,1,.t 62)])) (.only 8 [0,1,2] (xS 5 4 63) (.done))))))))))) (.ret)) (.skip))))))))))))))))) (kR [xo 64 (.build [xz,xz,xz,xz,xz] [(0,1,xi 12)]),xS 5 4 64]))⟩
def compile (p:Prog):List (List Step)×Bool :=
 if progOk p&&lieOk p.caps&&p.bods.all (fun b=>codeOk (comp p.caps b)) then (p.bods.map (comp p.caps),true) else ([],false)
theorem specStarts_ok (p:Prog) (k:Nat) (h1:p.caps.length<2^40) (h2:p.bods.length<2^40) (h3 :∀b∈p.bods,b.length<2^40) (hp:progOk p=true) (hk:k<p.bods.length):CallOk Tryz.prog num 203 [.agg (progC .bw p),.int .i64 k] [] (.sl .own 1 (ints (startsOf (p.bods.getD k [])))):=by
 have w1:IntKind.i64.wrap ((p.bods.length:Int)-1)=p.bods.length-1:=qAg (by omega) (by omega)
 have hw:within (k:Int) 0 (p.bods.length-1)=true:=by rw [within_iff]; omega
 have hb:=h3 _ (qAd p.bods k [] hk)
 refine EN m203 Tryz.func156 ?_
 unfold m203
 simp only [go_sem,seval]
 repeat refine K ?_
 refine CA [] (qDk p (by omega) (by omega) (fun b hb=>by have:=h3 b hb; omega)) ?_
 try simp only [go_sem,seval]
 repeat refine K ?_
 try simp only [go_sem,seval,hp,w1]
 repeat refine K ?_
 refine CA [] (qAq k 0 (p.bods.length-1)) ?_
 try simp only [go_sem,seval]
 repeat refine K ?_
 try simp only [go_sem,seval,hw,qA9 .bw p.bods k hk]
 repeat refine K ?_
 refine CA [] (l11Starts_ok (p.bods.getD k []) hb) ?_
 try simp only [go_sem,seval]
 repeat refine K ?_
 have w2:IntKind.i64.wrap (((p.bods.getD k []).length+1:Nat)-1:Int)=(p.bods.getD k []).length:=by rw [qAg (by omega) (by omega)]; omega
 try simp only [go_sem,seval,qB0,w2]
 repeat refine K ?_
 refine ⟨_,Sub.refl _,qAm ?_⟩; simp [-List.drop_one]
 rw [startsN_take _ _ _ (by omega)]
 rfl
theorem insOk_jump {x:Ins} {pl ch:Int} (h:insOk x pl ch=true) (ho:x.op=11∨x.op=12):0≤x.n∧x.n<pl:=by
 unfold insOk at h
 rcases ho with ho | ho
 ·simp [ho] at h
  omega
 ·simp [ho] at h
  omega
theorem insOk_chan {x:Ins} {pl ch:Int} (h:insOk x pl ch=true) (ho:within x.op 5 9=true):0≤x.n∧x.n<ch:=by
 rw [within_iff] at ho
 unfold insOk at h
 obtain e | e | e | e | e:x.op=5∨x.op=6∨x.op=7∨x.op=8∨x.op=9:=by omega
 all_goals
  simp [e,within_iff] at h
  omega
theorem single_ok (x:Ins) (starts:List Int) (h:x.op=11∨x.op=12→0≤x.n∧x.n.toNat<starts.length):CallOk Tryz.prog num 263 [.agg (insC x),.sl .bw 1 (ints starts)] [] (.agg (stepC (single x starts))):=by
 refine EN m263 Tryz.func221 ?_
 unfold m263
 by_cases hj:x.op=11∨x.op=12
 ·obtain ⟨n0,n1⟩:=h hj
  have g:=qA0 starts x.n.toNat n1
  rcases hj with hj | hj
  ·simp only [go_sem,seval,hj,g]
   repeat refine K ?_
   refine fz ?_; simp [FinS,nilL,nilV,oneOr,-List.drop_one]
   all_goals simp [single,hj]
  ·simp only [go_sem,seval,hj,g]
   repeat refine K ?_
   refine fz ?_; simp [FinS,nilL,nilV,oneOr,-List.drop_one]
   all_goals simp [single,hj]
 ·have e11 :¬x.op=11:=fun e=>hj (.inl e)
  have e12 :¬x.op=12:=fun e=>hj (.inr e)
  repeat' (first
   | (simp only [go_sem,seval,e11,e12])
   | (refine qA1 (fun hc=>?_) (fun hc=>?_)<;>((try simp only [Bool.not_eq_true',Bool.not_eq_false',ne_eq,Bool.not_eq_true,Bool.not_eq_false] at hc)<;>(try simp only [hc])))
   | (refine qB4 (fun hc=>?_) (fun hc=>?_)<;>((try simp only [Bool.not_eq_true',Bool.not_eq_false',ne_eq,Bool.not_eq_true,Bool.not_eq_false] at hc)<;>(try simp only [hc])))
   | (refine qAy (fun hc=>?_) (fun hc=>?_)<;>((try simp only [Bool.not_eq_true',Bool.not_eq_false',ne_eq,Bool.not_eq_true,Bool.not_eq_false] at hc)<;>(try simp only [hc])))
   | (refine ⟨by first | omega | (simp; done),?_⟩)
   | fail)
  all_goals (refine fz ?_; simp [FinS,nilL,nilV,oneOr,-List.drop_one])
  all_goals (try (simp_all [single]; done))
theorem implEmit_ok (caps:List Int) (x:Ins) (f:Int) (starts:List Int) (hl:caps.length<2^40) (hs:starts.length<2^40) (hf:0≤f∧f<2^40) :
  CallOk Tryz.prog num 208 [.sl .bw 1 (ints caps),.agg (insC x),.int .i64 f,.sl .bw 1 (ints starts)] [] (.sl .own 5 (steps (emit caps x f starts))):=by
 refine EN m208 Tryz.func162 ?_
 unfold m208
 simp only [go_sem,seval]
 repeat refine K ?_
 refine CA [] (implInsOk_ok x starts.length caps.length (by omega) (by omega) (by omega) (by omega)) ?_
 try simp only [go_sem,seval]
 repeat refine K ?_
 cases ho:insOk x starts.length caps.length
 ·try simp only [go_sem,seval,ho]
  repeat refine K ?_
  refine ⟨_,Sub.refl _,qAm ?_⟩; simp [-List.drop_one]
  simp [emit,ho,steps]
 try simp only [go_sem,seval,ho]
 repeat refine K ?_
 refine CA [] (ofChan_ok x.op) ?_
 try simp only [go_sem,seval]
 repeat refine K ?_
 cases hch:within x.op 5 9
 ·have hj:=fun h=>insOk_jump ho h
  try simp only [go_sem,seval,hch]
  repeat refine K ?_
  refine CA [] (single_ok x starts (fun h=>by have:=hj h; omega)) ?_
  try simp only [go_sem,seval]
  repeat refine K ?_
  try simp only [go_sem,seval]
  repeat refine K ?_
  refine ⟨_,Sub.refl _,qAm ?_⟩; simp [-List.drop_one]
  simp [emit,ho,hch,steps,stepC]
 try simp only [go_sem,seval,hch]
 repeat refine K ?_
 refine CA [] (implBase_ok caps x.n hl) ?_
 try simp only [go_sem,seval]
 repeat refine K ?_
 by_cases hb:base caps x.n<0
 ·try simp only [go_sem,seval,hb]
  repeat refine K ?_
  refine ⟨_,Sub.refl _,qAm ?_⟩; simp [-List.drop_one]
  simp [emit,ho,hch,hb,steps]
 obtain ⟨n0,n1,_,b0,b1,b2⟩:=qE5 hb
 rw [within_iff] at b2
 have he:emit caps x f starts=lockL f (base caps x.n)++(if x.op=5∨x.op=7 then sendL f (base caps x.n) (caps.getD x.n.toNat 0) x else if x.op=6∨x.op=8 then takeL f (base caps x.n) (caps.getD x.n.toNat 0) x else closeL f (base caps x.n)):=by
  unfold emit
  rw [if_pos ho,if_pos hch,if_neg hb]
 try simp only [go_sem,seval,hb,qA0 caps x.n.toNat n1]
 repeat refine K ?_
 rw [he]
 generalize base caps x.n=b at *
 generalize caps.getD x.n.toNat 0=c at *
 clear he
 apply qBj
 ·refine Sub.trans (Sub.nilLast 11 (front:=[]) (r':=emC .own ⟨[],f,b,c⟩) rfl (by simp [steps]) (by simp [bndr,bnds,bnd])) ?_
  simp only [put,qC,if_true,if_false]
  exact Sub.refl _
 refine CA [(0,11)] (em_lock_ok [] f b c (by simp) hf ⟨b0,by omega⟩) ?_
 try simp only [go_sem,seval]
 repeat refine K ?_
 have hop:=within_iff.1 hch
 have hll:(lockL f b).length<2^30:=by rw [lockL_length]; omega
 by_cases h5:x.op=5
 ·try simp only [go_sem,seval,h5]
  repeat refine K ?_
  refine CA [(0,11)] (em_send_ok (lockL f b) f b c x hll h5 hf ⟨b0,by omega⟩) ?_
  try simp only [go_sem,seval]
  repeat refine K ?_
  try simp only [go_sem,seval]
  repeat refine K ?_
  refine ⟨_,Sub.refl _,qAm ?_⟩; simp [-List.drop_one]
  try simp [h5]
 by_cases h7:x.op=7
 ·try simp only [go_sem,seval,h5,h7]
  repeat refine K ?_
  refine CA [(0,11)] (em_sendTry_ok (lockL f b) f b c x hll h7 hf ⟨b0,by omega⟩) ?_
  try simp only [go_sem,seval]
  repeat refine K ?_
  try simp only [go_sem,seval]
  repeat refine K ?_
  refine ⟨_,Sub.refl _,qAm ?_⟩; simp [-List.drop_one]
  try simp [h7]
 by_cases h6:x.op=6
 ·try simp only [go_sem,seval,h5,h6,h7]
  repeat refine K ?_
  refine CA [(0,11)] (em_take_ok (lockL f b) f b c x hll h6 hf ⟨b0,by omega⟩) ?_
  try simp only [go_sem,seval]
  repeat refine K ?_
  try simp only [go_sem,seval]
  repeat refine K ?_
  refine ⟨_,Sub.refl _,qAm ?_⟩; simp [-List.drop_one]
  try simp [h6]
 by_cases h8:x.op=8
 ·try simp only [go_sem,seval,h5,h6,h7,h8]
  repeat refine K ?_
  refine CA [(0,11)] (em_takeTry_ok (lockL f b) f b c x hll h8 hf ⟨b0,by omega⟩) ?_
  try simp only [go_sem,seval]
  repeat refine K ?_
  try simp only [go_sem,seval]
  repeat refine K ?_
  refine ⟨_,Sub.refl _,qAm ?_⟩; simp [-List.drop_one]
  try simp [h8]
 try simp only [go_sem,seval,h5,h6,h7,h8]
 repeat refine K ?_
 refine CA [(0,11)] (em_close_ok (lockL f b) f b c hll hf ⟨b0,by omega⟩) ?_
 try simp only [go_sem,seval]
 repeat refine K ?_
 try simp only [go_sem,seval]
 repeat refine K ?_
 refine ⟨_,Sub.refl _,qAm ?_⟩; simp [-List.drop_one]
 try simp [h5,h6,h7,h8]
theorem specEmit_ok (caps:List Int) (x:Ins) (f:Int) (starts:List Int) (hl:caps.length<2^40) (hs:starts.length<2^40) (hf:0≤f∧f<2^40) :
  CallOk Tryz.prog num 204 [.sl .bw 1 (ints caps),.agg (insC x),.int .i64 f,.sl .bw 1 (ints starts)] [] (.sl .own 5 (steps (emit caps x f starts))):=by
 refine EN m204 Tryz.func157 ?_
 unfold m204
 simp only [go_sem,seval]
 repeat refine K ?_
 refine CA [] (specInsOk_ok x starts.length caps.length (by omega) (by omega)) ?_
 try simp only [go_sem,seval]
 repeat refine K ?_
 cases ho:insOk x starts.length caps.length
 ·try simp only [go_sem,seval,ho]
  repeat refine K ?_
  refine ⟨_,Sub.refl _,qAm ?_⟩; simp [-List.drop_one]
  simp [emit,ho,steps]
 try simp only [go_sem,seval,ho]
 repeat refine K ?_
 have hop:=within_iff.1 (insOk_op ho).1
 cases hch:within x.op 5 9
 ·have hj:=fun h=>insOk_jump ho h
  have hno :¬(5≤x.op∧x.op≤9):=fun h=>by rw [←within_iff] at h; rw [h] at hch; simp at hch
  have he:emit caps x f starts=[single x starts]:=by
   unfold emit
   rw [if_pos ho,hch]
   rfl
  rw [he]
  obtain e | e | e | e | e | e | e | e:x.op=1∨x.op=2∨x.op=3∨x.op=4∨x.op=10∨x.op=11∨x.op=12∨x.op=13:=by omega
  ·try simp only [go_sem,seval,e]
   repeat refine K ?_
   refine CA [] (qB6 x.r x.n) ?_
   try simp only [go_sem,seval]
   repeat refine K ?_
   try simp only [go_sem,seval]
   repeat refine K ?_
   refine ⟨_,Sub.refl _,qAm ?_⟩; simp [-List.drop_one]
   simp [steps,stepC,single,e]
  ·try simp only [go_sem,seval,e]
   repeat refine K ?_
   refine CA [] (qB2 2 x.r x.a x.b) ?_
   try simp only [go_sem,seval]
   repeat refine K ?_
   try simp only [go_sem,seval]
   repeat refine K ?_
   refine ⟨_,Sub.refl _,qAm ?_⟩; simp [-List.drop_one]
   simp [steps,stepC,single,e]
  ·try simp only [go_sem,seval,e]
   repeat refine K ?_
   refine CA [] (qB2 3 x.r x.a x.b) ?_
   try simp only [go_sem,seval]
   repeat refine K ?_
   try simp only [go_sem,seval]
   repeat refine K ?_
   refine ⟨_,Sub.refl _,qAm ?_⟩; simp [-List.drop_one]
   simp [steps,stepC,single,e]
  ·try simp only [go_sem,seval,e]
   repeat refine K ?_
   refine CA [] (qB2 4 x.r x.a x.b) ?_
   try simp only [go_sem,seval]
   repeat refine K ?_
   try simp only [go_sem,seval]
   repeat refine K ?_
   refine ⟨_,Sub.refl _,qAm ?_⟩; simp [-List.drop_one]
   simp [steps,stepC,single,e]
  ·try simp only [go_sem,seval,e]
   repeat refine K ?_
   refine ⟨_,Sub.refl _,qAm ?_⟩; simp [-List.drop_one]
   simp [steps,stepC,single,e]
  ·have hj':=hj (.inl e)
   try simp only [go_sem,seval,e,qA0 starts x.n.toNat (by omega)]
   repeat refine K ?_
   refine CA [] (qBk (starts.getD x.n.toNat 0)) ?_
   try simp only [go_sem,seval]
   repeat refine K ?_
   try simp only [go_sem,seval]
   repeat refine K ?_
   refine ⟨_,Sub.refl _,qAm ?_⟩; simp [-List.drop_one]
   simp [steps,stepC,single,e]
  ·have hj':=hj (.inr e)
   try simp only [go_sem,seval,e,qA0 starts x.n.toNat (by omega)]
   repeat refine K ?_
   refine DA [] (qC7 x.a (starts.getD x.n.toNat 0)) ?_
   try simp only [go_sem,seval]
   repeat refine K ?_
   try simp only [go_sem,seval]
   repeat refine K ?_
   refine ⟨_,Sub.refl _,qAm ?_⟩; simp [-List.drop_one]
   simp [steps,stepC,single,e]
  ·try simp only [go_sem,seval,e]
   repeat refine K ?_
   refine ⟨_,Sub.refl _,qAm ?_⟩; simp [-List.drop_one]
   simp [steps,stepC,single,e]
 have hop9:=within_iff.1 hch
 have e1 :¬x.op=1:=by omega
 have e2 :¬x.op=2:=by omega
 have e3 :¬x.op=3:=by omega
 have e4 :¬x.op=4:=by omega
 have e10 :¬x.op=10:=by omega
 have e11 :¬x.op=11:=by omega
 have e12 :¬x.op=12:=by omega
 have e13 :¬x.op=13:=by omega
 try simp only [go_sem,seval,e1,e2,e3,e4,e10,e11,e12,e13]
 repeat refine K ?_
 refine CA [] (specBase_ok caps x.n hl) ?_
 try simp only [go_sem,seval]
 repeat refine K ?_
 by_cases hb:base caps x.n<0
 ·try simp only [go_sem,seval,hb]
  repeat refine K ?_
  refine ⟨_,Sub.refl _,qAm ?_⟩; simp [-List.drop_one]
  simp [emit,ho,hch,hb,steps]
 obtain ⟨n0,n1,_,b0,b1,b2⟩:=qE5 hb
 rw [within_iff] at b2
 have he:emit caps x f starts=lockL f (base caps x.n)++(if x.op=5∨x.op=7 then sendL f (base caps x.n) (caps.getD x.n.toNat 0) x else if x.op=6∨x.op=8 then takeL f (base caps x.n) (caps.getD x.n.toNat 0) x else closeL f (base caps x.n)):=by
  unfold emit
  rw [if_pos ho,if_pos hch,if_neg hb]
 have g:=qA0 caps x.n.toNat n1
 rw [he]
 generalize base caps x.n=b at *
 generalize caps.getD x.n.toNat 0=c at *
 clear he
 have hB:0≤b∧b<2^40:=⟨b0,by omega⟩
 by_cases h5:x.op=5
 ·try simp only [go_sem,seval,hb,h5,g]
  repeat refine K ?_
  refine DA [] (l10Send_ok x c b f h5 hB hf) ?_
  try simp only [go_sem,seval]
  repeat refine K ?_
  try simp only [go_sem,seval]
  repeat refine K ?_
  refine ⟨_,Sub.refl _,qAm ?_⟩; simp [-List.drop_one]
  try simp [h5]
 by_cases h7:x.op=7
 ·try simp only [go_sem,seval,hb,h5,h7,g]
  repeat refine K ?_
  refine DA [] (l10SendTry_ok x c b f h7 hB hf) ?_
  try simp only [go_sem,seval]
  repeat refine K ?_
  try simp only [go_sem,seval]
  repeat refine K ?_
  refine ⟨_,Sub.refl _,qAm ?_⟩; simp [-List.drop_one]
  try simp [h7]
 by_cases h6:x.op=6
 ·try simp only [go_sem,seval,hb,h5,h6,h7,g]
  repeat refine K ?_
  refine DA [] (l10Take_ok x c b f h6 hB hf) ?_
  try simp only [go_sem,seval]
  repeat refine K ?_
  try simp only [go_sem,seval]
  repeat refine K ?_
  refine ⟨_,Sub.refl _,qAm ?_⟩; simp [-List.drop_one]
  try simp [h6]
 by_cases h8:x.op=8
 ·try simp only [go_sem,seval,hb,h5,h6,h7,h8,g]
  repeat refine K ?_
  refine DA [] (l10TakeTry_ok x c b f h8 hB hf) ?_
  try simp only [go_sem,seval]
  repeat refine K ?_
  try simp only [go_sem,seval]
  repeat refine K ?_
  refine ⟨_,Sub.refl _,qAm ?_⟩; simp [-List.drop_one]
  try simp [h8]
 try simp only [go_sem,seval,hb,h5,h6,h7,h8]
 repeat refine K ?_
 refine CA [] (l10Close_ok b f hB hf) ?_
 try simp only [go_sem,seval]
 repeat refine K ?_
 try simp only [go_sem,seval]
 repeat refine K ?_
 refine ⟨_,Sub.refl _,qAm ?_⟩; simp [-List.drop_one]
 try simp [h5,h6,h7,h8]
theorem codes_snoc (l:List (List Step)) (x:List Step):codes .own l++[[AV.sl .own 5 (steps x)]]=codes .own (l++[x]):=by simp [codes]
theorem map_take_next {α β:Type} (f:α→β) (l:List α) (d:α) (i:Nat) (h:i<l.length):(l.take i).map f++[f (l.getD i d)]=(l.take (i+1)).map f:=by
 rw [qBm l d i h,List.map_append]
 rfl
theorem compN_small (caps:List Int) (b:List Ins) (i:Nat) (hb:b.length≤24) (hi:i≤b.length):(compN caps b i).length≤960:=by
 have:=compN_len caps b i
 omega
theorem body_len' {l:List Ins} {ch:Int} (h:bodyOk l ch=true):1≤l.length∧l.length≤24:=by
 unfold bodyOk at h
 simp only [Bool.and_eq_true,within_iff] at h
 omega
theorem implCompile_ok (p:Prog) (hp:SmallP p):CallOk Tryz.prog num 163 [.agg (progC .bw p)] [] (.tup [.sl .own 1 (codes .own (compile p).1),.bool (compile p).2]):=by
 obtain ⟨h1,h2,h3⟩:=hp
 refine EN m163 Tryz.func84 ?_
 unfold m163
 simp only [go_sem,seval]
 repeat refine K ?_
 refine CA [] (implProgOk_ok p (by omega) (by omega) (fun b hb=>by have:=h3 b hb; omega)) ?_
 try simp only [go_sem,seval]
 repeat refine K ?_
 cases hok:progOk p
 ·try simp only [go_sem,seval,hok]
  repeat refine K ?_
  refine ⟨_,Sub.refl _,qAp (by simp) ?_⟩; simp [-List.drop_one]
  simp [compile,hok]
 try simp only [go_sem,seval,hok]
 repeat refine K ?_
 have hb0:=base0_neg hok
 have hco:=progOk_caps hok
 cases hk:lieOk p.caps
 ·rw [hk] at hb0
  simp only [Bool.not_false,Bool.and_eq_true,decide_eq_true_eq] at hb0
  try simp only [go_sem,seval,hb0.1]
  repeat refine K ?_
  refine CA [] (implBase_ok p.caps 0 h1) ?_
  try simp only [go_sem,seval]
  repeat refine K ?_
  try simp only [go_sem,seval,hb0.2]
  repeat refine K ?_
  refine ⟨_,Sub.refl _,qAp (by simp) ?_⟩; simp [-List.drop_one]
  simp [compile,hk]
 rw [hk] at hb0
 simp only [Bool.not_true] at hb0
 by_cases hlen:(0:Int)<p.caps.length
 all_goals
  try simp only [go_sem,seval,hlen]
  repeat refine K ?_
 any_goals
  have hb1 :¬base p.caps 0<0:=fun h=>by rw [decide_eq_true h,decide_eq_true hlen] at hb0; simp at hb0
  refine CA [] (implBase_ok p.caps 0 h1) ?_
  try simp only [go_sem,seval]
  repeat refine K ?_
  try simp only [go_sem,seval,hb1]
  repeat refine K ?_
 all_goals
  refine qA8 (ι:=Nat) (fun i=>.mk [(1,.ptr 10 0 0),(4,.ns 11 0 i),(28,.sl .bw 1 (bodies .bw p.bods)),(29,.int .i64 p.bods.length),(30,.int .i64 i)] [(10,2,[progC .bw p]),(11,1,codes .own ((p.bods.take i).map (comp p.caps)))] 12) (fun i=>i≤p.bods.length∧(p.bods.take i).all (fun b=>codeOk (comp p.caps b))=true) (fun i=>p.bods.length-i) 0 (by simp) ?_ ?_
  ·refine Sub.shape [] id (by omega) ?_ ?_ ?_ ?_<;>simp [qA2]
   all_goals simp [codes]
  ·rintro i ⟨hi,hall⟩
   simp only [go_sem,seval]
   refine qA1 (fun hc=>?_) (fun hc=>?_)
   ·simp only [decide_eq_true_eq] at hc
    have hl':i<p.bods.length:=by omega
    have hbo:=hco.2.2.2.2 _ (qAd p.bods i [] hl')
    have hbl:=body_len' hbo
    have hlt:(p.bods.take i).length=i:=by simp; omega
    simp only [go_sem,seval,qA9 .bw p.bods i hl']
    repeat refine K ?_
    refine CA [] (startsOf_ok (p.bods.getD i []) (by omega)) ?_
    try simp only [go_sem,seval]
    repeat refine K ?_
    generalize hbd:p.bods.getD i []=b at hbo hbl
    try simp only [go_sem,seval]
    repeat refine K ?_
    refine qA8 (ι:=Nat) (fun j=>.mk [(1,.ptr 10 0 0),(4,.ns 11 0 i),(7,.ns 12 0 b.length),(8,.ns 13 0 (compN p.caps b j).length),(28,.sl .bw 1 (bodies .bw p.bods)),(29,.int .i64 p.bods.length),(30,.int .i64 i),(37,.sl .bw 5 (inss b)),(38,.int .i64 b.length),(39,.int .i64 j)] [(10,2,[progC .bw p]),(11,1,codes .own ((p.bods.take i).map (comp p.caps))),(12,1,ints (startsOf b)),(13,5,steps (compN p.caps b j))] 14) (fun j=>j≤b.length) (fun j=>b.length-j) 0 (by simp) ?_ ?_
    ·refine Sub.shape [] id (by omega) ?_ ?_ ?_ ?_<;>simp [qA2]
     all_goals simp [compN,startsOf,qB0,steps]
    ·intro j hj
     simp only [go_sem,seval]
     refine qA1 (fun hc2=>?_) (fun hc2=>?_)
     ·simp only [decide_eq_true_eq] at hc2
      have hj':j<b.length:=by omega
      have hcl:=compN_small p.caps b j hbl.2 (by omega)
      have hsl:(startsOf b).length=b.length:=qB0 b b.length
      have hst:(startsOf b).take b.length=startsOf b:=List.take_of_length_le (by omega)
      have hsg:(startsOf b).getD j 0=szB (b.take j):=qDg b b.length j hj'
      have hsz:=qDf b j
      have hem:=emit_len p.caps (b.getD j default) (szB (b.take j)) (startsOf b)
      simp only [go_sem,seval,qBh b j hj',qA0 (startsOf b) j (by omega),hsg,hsl]
      repeat refine K ?_
      refine DA [] (implEmit_ok p.caps (b.getD j default) (szB (b.take j)) (startsOf b) h1 (by omega) ⟨hsz.1,by omega⟩) ?_
      try simp only [go_sem,seval]
      repeat refine K ?_
      try simp only [go_sem,seval,qA7 (i:=j) (by omega)]
      repeat refine K ?_
      refine qA6 (j+1) (Sub.shape [] (fun n=>if n=13 then 16 else n) (by omega) ?_ ?_ ?_ ?_) hj' (by omega)<;>simp [qA2]
      all_goals simp [compN,steps]
     ·simp only [decide_eq_false_iff_not] at hc2
      have he:j=b.length:=by omega
      subst he
      have hcl:=compN_small p.caps b b.length hbl.2 (Nat.le_refl _)
      have hcn:=codes_snoc ((p.bods.take i).map (comp p.caps)) (compN p.caps b b.length)
      have hcm:(p.bods.take i).map (comp p.caps)++[compN p.caps (p.bods.getD i []) (p.bods.getD i []).length]=(p.bods.take (i+1)).map (comp p.caps):=map_take_next (comp p.caps) p.bods [] i hl'
      rw [hbd] at hcm
      simp only [go_sem,seval]
      repeat refine K ?_
      refine CA [] (implCodeOk_ok (compN p.caps b b.length) (by omega)) ?_
      try simp only [go_sem,seval]
      repeat refine K ?_
      cases hcd:codeOk (compN p.caps b b.length)
      ·try simp only [go_sem,seval,hcd]
       repeat refine K ?_
       refine ⟨_,Sub.refl _,qAp (by simp) ?_⟩; simp [-List.drop_one]
       have:(p.bods.all fun b=>codeOk (comp p.caps b))=false:=qBq (d:=[]) hl' (by rw [hbd]; exact hcd)
       simp [compile,this]
      ·try simp only [go_sem,seval,hcd,List.length_map,hlt,qA7 (i:=i) (by omega)]
       repeat refine K ?_
       refine qA6 (i+1) ?_ ⟨hl',qC2 (d:=[]) hall hl' (by rw [hbd]; exact hcd)⟩ (by omega)
       refine Sub.trans (Sub.foldLast 15 0 13 rfl (by simp [-gD]<;>omega) rfl (by decide) (by decide) rfl) ?_
       simp only [fS,fS2,qA,qC,hcn,hcm]
       refine Sub.shape [] (fun n=>if n=11 then 15 else n) (by omega) ?_ ?_ ?_ ?_<;>simp [qA2]
   ·simp only [decide_eq_false_iff_not] at hc
    have he:=qDa hall hc
    have hie:i=p.bods.length:=by omega
    subst hie
    have ht:p.bods.take p.bods.length=p.bods:=List.take_length
    simp only [go_sem,seval,ht]
    repeat refine K ?_
    refine ⟨_,Sub.refl _,qAp (by simp) ?_⟩; simp [-List.drop_one]
    simp [compile,hok,hk,he]
theorem specCompile_ok (p:Prog) (hp:SmallP p):CallOk Tryz.prog num 162 [.agg (progC .bw p)] [] (.tup [.sl .own 1 (codes .own (compile p).1),.bool (compile p).2]):=by
 obtain ⟨h1,h2,h3⟩:=hp
 refine EN m162 Tryz.func80 ?_
 unfold m162
 simp only [go_sem,seval]
 repeat refine K ?_
 refine CA [] (qDk p (by omega) (by omega) (fun b hb=>by have:=h3 b hb; omega)) ?_
 try simp only [go_sem,seval]
 repeat refine K ?_
 cases hok:progOk p
 ·try simp only [go_sem,seval,hok]
  repeat refine K ?_
  refine ⟨_,Sub.refl _,qAp (by simp) ?_⟩; simp [-List.drop_one]
  simp [compile,hok,codes]
 try simp only [go_sem,seval,hok]
 repeat refine K ?_
 have hco:=progOk_caps hok
 refine CA [] (l9Right_ok p.caps h1) ?_
 try simp only [go_sem,seval]
 repeat refine K ?_
 cases hk:lieOk p.caps
 ·try simp only [go_sem,seval,hk]
  repeat refine K ?_
  refine ⟨_,Sub.refl _,qAp (by simp) ?_⟩; simp [-List.drop_one]
  simp [compile,hk,codes]
 try simp only [go_sem,seval,hk]
 repeat refine K ?_
 refine qA8 (ι:=Nat) (fun i=>.mk [(1,.ptr 10 0 0),(5,.ns 11 0 i),(6,.int .i64 i)] [(10,2,[progC .bw p]),(11,1,codes .own ((p.bods.take i).map (comp p.caps)))] 12) (fun i=>i≤p.bods.length∧(p.bods.take i).all (fun b=>codeOk (comp p.caps b))=true) (fun i=>p.bods.length-i) 0 (by simp) ?_ ?_
 ·refine Sub.shape [] id (by omega) ?_ ?_ ?_ ?_<;>simp [qA2]
  all_goals simp [codes]
 ·rintro i ⟨hi,hall⟩
  simp only [go_sem,seval]
  repeat refine K ?_
  refine qA1 (fun hc=>?_) (fun hc=>?_)
  ·simp only [decide_eq_true_eq] at hc
   have hl':i<p.bods.length:=by omega
   have hbo:=hco.2.2.2.2 _ (qAd p.bods i [] hl')
   have hbl:=body_len' hbo
   have hlt:(p.bods.take i).length=i:=by simp; omega
   simp only [go_sem,seval]
   repeat refine K ?_
   refine CA [] (specStarts_ok p i h1 h2 h3 hok hl') ?_
   try simp only [go_sem,seval]
   repeat refine K ?_
   generalize hbd:p.bods.getD i []=b at hbo hbl
   try simp only [go_sem,seval]
   repeat refine K ?_
   refine qA8 (ι:=Nat) (fun j=>.mk [(1,.ptr 10 0 0),(5,.ns 11 0 i),(6,.int .i64 i),(7,.ns 12 0 b.length),(8,.ns 13 0 (compN p.caps b j).length),(9,.int .i64 j)] [(10,2,[progC .bw p]),(11,1,codes .own ((p.bods.take i).map (comp p.caps))),(12,1,ints (startsOf b)),(13,5,steps (compN p.caps b j))] 14) (fun j=>j≤b.length) (fun j=>b.length-j) 0 (by simp) ?_ ?_
   ·refine Sub.shape [] id (by omega) ?_ ?_ ?_ ?_<;>simp [qA2]
    all_goals simp [compN,startsOf,qB0,steps]
   ·intro j hj
    simp only [go_sem,seval,qA9 .bw p.bods i hl',hbd]
    repeat refine K ?_
    refine qA1 (fun hc2=>?_) (fun hc2=>?_)
    ·simp only [decide_eq_true_eq] at hc2
     have hj':j<b.length:=by omega
     have hcl:=compN_small p.caps b j hbl.2 (by omega)
     have hsl:(startsOf b).length=b.length:=qB0 b b.length
     have hst:(startsOf b).take b.length=startsOf b:=List.take_of_length_le (by omega)
     have hsg:(startsOf b).getD j 0=szB (b.take j):=qDg b b.length j hj'
     have hsz:=qDf b j
     have hem:=emit_len p.caps (b.getD j default) (szB (b.take j)) (startsOf b)
     simp only [go_sem,seval,qA9 .bw p.bods i hl',hbd,qBh b j hj',qA0 (startsOf b) j (by omega),hsg,hsl]
     repeat refine K ?_
     refine DA [] (specEmit_ok p.caps (b.getD j default) (szB (b.take j)) (startsOf b) h1 (by omega) ⟨hsz.1,by omega⟩) ?_
     try simp only [go_sem,seval]
     repeat refine K ?_
     try simp only [go_sem,seval,qA7 (i:=j) (by omega)]
     repeat refine K ?_
     refine qA6 (j+1) (Sub.shape [] (fun n=>if n=13 then 15 else n) (by omega) ?_ ?_ ?_ ?_) hj' (by omega)<;>simp [qA2]
     all_goals simp [compN,steps]
    ·simp only [decide_eq_false_iff_not] at hc2
     have he:j=b.length:=by omega
     subst he
     have hcl:=compN_small p.caps b b.length hbl.2 (Nat.le_refl _)
     have hcn:=codes_snoc ((p.bods.take i).map (comp p.caps)) (compN p.caps b b.length)
     have hcm:(p.bods.take i).map (comp p.caps)++[compN p.caps (p.bods.getD i []) (p.bods.getD i []).length]=(p.bods.take (i+1)).map (comp p.caps):=map_take_next (comp p.caps) p.bods [] i hl'
     rw [hbd] at hcm
     simp only [go_sem,seval]
     repeat refine K ?_
     refine CA [] (specCodeOk_ok (compN p.caps b b.length) (by omega)) ?_
     try simp only [go_sem,seval]
     repeat refine K ?_
     cases hcd:codeOk (compN p.caps b b.length)
     ·try simp only [go_sem,seval,hcd]
      repeat refine K ?_
      refine ⟨_,Sub.refl _,qAp (by simp) ?_⟩; simp [-List.drop_one]
      have:(p.bods.all fun b=>codeOk (comp p.caps b))=false:=qBq (d:=[]) hl' (by rw [hbd]; exact hcd)
      simp [compile,this,codes]
     ·try simp only [go_sem,seval,hcd,List.length_map,hlt,qA7 (i:=i) (by omega)]
      repeat refine K ?_
      refine qA6 (i+1) ?_ ⟨hl',qC2 (d:=[]) hall hl' (by rw [hbd]; exact hcd)⟩ (by omega)
      refine Sub.trans (Sub.foldLast 15 0 13 rfl (by simp [-gD]<;>omega) rfl (by decide) (by decide) rfl) ?_
      simp only [fS,fS2,qA,qC,hcn,hcm]
      refine Sub.shape [] (fun n=>if n=11 then 15 else n) (by omega) ?_ ?_ ?_ ?_<;>simp [qA2]
  ·simp only [decide_eq_false_iff_not] at hc
   have he:=qDa hall hc
   have hie:i=p.bods.length:=by omega
   subst hie
   have ht:p.bods.take p.bods.length=p.bods:=List.take_length
   simp only [go_sem,seval,ht]
   repeat refine K ?_
   refine ⟨_,Sub.refl _,qAp (by simp) ?_⟩; simp [-List.drop_one]
   simp [compile,hok,hk,he]
theorem compile_small (p:Prog):(compile p).1.length≤4∧∀c∈(compile p).1,c.length≤960:=by
 unfold compile
 split
 ·rename_i h
  simp only [Bool.and_eq_true] at h
  have hc:=progOk_caps h.1.1
  refine ⟨by simpa using hc.2.2.1,fun c hm=>?_⟩
  simp only [List.mem_map] at hm
  obtain ⟨b,hb,rfl⟩:=hm
  exact compN_small p.caps b b.length (body_len' (hc.2.2.2.2 b hb)).2 (Nat.le_refl _)
 ·simp
def rg (k:Core) (r:Int):Int:=k.regs.getD r.toNat 0
def setR (k:Core) (r v:Int):Core:={k with regs:=k.regs.set r.toNat v}
def coreAt (m:Machine) (i:Nat):Core:=m.cores.getD i default
def stepAt (m:Machine) (i:Nat):Step:=(m.codes.getD i []).getD (coreAt m i).at_.toNat default
def cellOf (k:Core) (s:Step):Int:=if s.op≠8∧0≤s.a then IntKind.i64.wrap (s.n+rg k s.a) else s.n
def setK (m:Machine) (i:Nat) (k:Core):Machine:={m with cores:=m.cores.set i k}
def stop (m:Machine) (i:Nat) (st:Int):Machine:=setK m i {coreAt m i with st:=st}
def goOn (m:Machine) (i:Nat) (k:Core) (next:Int):Machine :=
 if ((m.codes.getD i []).length:Int)≤next then setK m i {k with st:=2} else setK m i {k with at_:=next}
def isMem (op:Int):Bool:=decide (op=5)||decide (op=6)||decide (op=7)||decide (op=8)
def mcode (m:Machine) (who:Int):Int :=
 if within who 0 (m.cores.length-1) then
  let k:=coreAt m who.toNat
  let s:=stepAt m who.toNat
  if k.st≠0∨(s.op=9∧(m.tr.length:Int)=4000) then 3
  else if isMem s.op&&!decide (s.op=5)&&within (cellOf k s) 0 23&&decide ((4000:Int)≤(m.mem.cells.getD (cellOf k s).toNat []).length) then 3
  else 0
 else 2
def access (cs:List (List Write)) (k:Core) (s:Step) (cell:Nat) (late:Int):List (List Write)×Core :=
 if s.op=5 then
  let r:=load cs k.view cell late false
  (cs,{k with regs:=k.regs.set s.r.toNat r.1,view:=r.2})
 else if s.op=8 then
  let r:=load cs k.view cell 0 true
  let w:=store cs r.2 cell (rg k s.b) true
  (w.1,{k with regs:=k.regs.set s.r.toNat r.1,view:=w.2})
 else
  let w:=store cs k.view cell (rg k s.b) (decide (s.op=7))
  (w.1,{k with view:=w.2})
def alu (k:Core) (s:Step):Core :=
 if s.op=1 then setR k s.r s.n
 else if s.op=2 then setR k s.r (IntKind.i64.wrap (rg k s.a+rg k s.b))
 else if s.op=3 then setR k s.r (IntKind.i64.wrap (rg k s.a-rg k s.b))
 else if s.op=4 then setR k s.r (numb (decide (rg k s.a<rg k s.b)))
 else k
def nextAt (k:Core) (s:Step):Int:=if s.op=10 then s.n else if s.op=11∧rg k s.a=0 then s.n else k.at_+1
def mdo (m:Machine) (i:Nat) (late:Int):Machine :=
 let k:=coreAt m i
 let s:=stepAt m i
 if s.op=12 then stop m i 1
 else if s.op=13 then stop m i 2
 else if isMem s.op then
  if within (cellOf k s) 0 23 then
   let r:=access m.mem.cells k s (cellOf k s).toNat late
   goOn {m with mem:=⟨r.1⟩} i r.2 (k.at_+1)
  else stop m i 2
 else if s.op=9 then goOn {m with tr:=m.tr++[⟨i,rg k s.a⟩]} i k (k.at_+1)
 else goOn m i (alu k s) (nextAt k s)
def mstep (m:Machine) (x:Pick):Machine×Int:=if mcode m x.who=0 then (mdo m x.who.toNat x.late,0) else (m,mcode m x.who)
structure COk (m:Machine) (i:Nat):Prop where
 code:codeOk (m.codes.getD i [])=true
 regs:(coreAt m i).regs.length=8
 at0:0≤(coreAt m i).at_
 at1:(coreAt m i).at_<((m.codes.getD i []).length:Int)
 st0:0≤(coreAt m i).st
 st1:(coreAt m i).st≤2
 view:VOk m.mem.cells (coreAt m i).view
structure MOk (m:Machine):Prop where
 n1:1≤m.codes.length
 n4:m.codes.length≤4
 cores:m.cores.length=m.codes.length
 mem:MmOk m.mem.cells
 tr:notesOk m.tr m.cores.length=true
 core :∀i,i<m.cores.length→COk m i
theorem coreOk_iff {m:Machine} (hc:m.mem.cells.length=24) (i:Nat):coreOk m i=true↔COk m i:=by
 unfold coreOk
 simp only [Bool.and_eq_true,decide_eq_true_eq,within_iff,viewOk_iff hc]
 constructor
 ·rintro ⟨⟨⟨⟨h1,h2⟩,h3⟩,h4⟩,h5⟩
  exact ⟨h1,h2,h3.1,by unfold coreAt; omega,h4.1,h4.2,h5⟩
 ·rintro ⟨h1,h2,h3,h4,h5,h6,h7⟩
  unfold coreAt at *
  exact ⟨⟨⟨⟨h1,h2⟩,by omega⟩,by omega⟩,h7⟩
theorem qC0 (m:Machine):machineOk m=true↔MOk m:=by
 unfold machineOk
 simp only [Bool.and_eq_true,decide_eq_true_eq,within_iff,memoryOk_iff,range_all]
 constructor
 ·rintro ⟨⟨⟨⟨h1,h2⟩,h3⟩,h4⟩,h5⟩
  exact ⟨by omega,by omega,h2,h3,h4,fun i hi=>(coreOk_iff h3.len i).1 (h5 i hi)⟩
 ·rintro ⟨h1,h2,h3,h4,h5,h6⟩
  exact ⟨⟨⟨⟨by omega,h3⟩,h4⟩,h5⟩,fun i hi=>(coreOk_iff h4.len i).2 (h6 i hi)⟩
theorem VOk.grow {cs cs':List (List Write)} {v:List Int} (h:VOk cs v) (hg :∀i,i<24→(cs.getD i []).length≤(cs'.getD i []).length):VOk cs' v :=
 ⟨h.1,fun i hi=>by have:=h.2 i hi; have:=hg i hi; omega⟩
theorem join_length :∀(a b:List Int),a.length=b.length→(join a b).length=a.length
 | [],_,_=>by simp [join]
 | _::_,[],h=>by simp at h
 | a::l,b::k,h=>by simp [join,join_length l k (by simpa using h)]
theorem join_at :∀(a b:List Int) (i:Nat),i<a.length→i<b.length→(join a b).getD i 0=max (a.getD i 0) (b.getD i 0)
 | [],_,i,h,_=>by simp at h
 | _::_,[],i,_,h=>by simp at h
 | a::l,b::k,0,_,_=>by simp [join]
 | a::l,b::k,i+1,h,g=>by
  simp only [join,List.getD_cons_succ]
  exact join_at l k i (by simpa using h) (by simpa using g)
theorem VOk.join {cs:List (List Write)} {v w:List Int} (h:VOk cs v) (k:VOk cs w):VOk cs (join v w):=by
 refine ⟨by rw [join_length _ _ (by rw [h.1,k.1])]; exact h.1,fun i hi=>?_⟩
 have a:=h.2 i hi
 have b:=k.2 i hi
 rw [join_at _ _ i (by rw [h.1]; exact hi) (by rw [k.1]; exact hi)]
 omega
theorem rep_getD (n i:Nat) (a:Int):(List.replicate n a).getD i a=a:=by
 rw [List.getD_eq_getElem?_getD,List.getElem?_replicate]
 split<;>rfl
theorem VOk.zero {cs:List (List Write)} (h:MmOk cs):VOk cs (List.replicate 24 0):=by
 refine ⟨rfl,fun i hi=>?_⟩
 have:=(h.cell i hi).1
 rw [rep_getD]
 omega
def ldAt (cs:List (List Write)) (view:List Int) (cell:Nat) (late:Int):Int:=max (((cs.getD cell []).length:Int)-1-max late 0) (view.getD cell 0)
theorem ldAt_in {cs:List (List Write)} {view:List Int} {cell:Nat} {late:Int} (h:VOk cs view) (hc:cell<24):0≤ldAt cs view cell late∧ldAt cs view cell late<((cs.getD cell []).length:Int):=by
 have:=h.2 cell hc
 unfold ldAt
 omega
theorem load_eq (cs:List (List Write)) (view:List Int) (cell:Nat) (late:Int) (hold:Bool):load cs view cell late hold=(((cs.getD cell []).getD (ldAt cs view cell late).toNat default).v,if hold then join (view.set cell (ldAt cs view cell late)) ((cs.getD cell []).getD (ldAt cs view cell late).toNat default).view else view.set cell (ldAt cs view cell late)):=rfl
theorem load_ok {cs:List (List Write)} {view:List Int} {cell:Nat} {late:Int} {hold:Bool} (hm:MmOk cs) (h:VOk cs view) (hc:cell<24):VOk cs (load cs view cell late hold).2:=by
 have hl:=ldAt_in (late:=late) h hc
 have hs:=h.set cell (ldAt cs view cell late) hl.1 hl.2
 rw [load_eq]
 simp only
 split
 ·refine hs.join (hm.view cell hc _ (qAd _ _ _ (by omega)))
 ·exact hs
theorem store_mem {cs:List (List Write)} {view:List Int} {cell:Nat} {v:Int} {go:Bool} (hm:MmOk cs) (h:VOk cs view) (hc:cell<24) (hr:(cs.getD cell []).length<4000):MmOk (store cs view cell v go).1∧VOk (store cs view cell v go).1 (store cs view cell v go).2∧(∀i,i<24→(cs.getD i []).length≤((store cs view cell v go).1.getD i []).length):=by
 have hcl:cell<cs.length:=by rw [hm.len]; exact hc
 unfold store
 simp only
 generalize hw:(⟨v,if go then view.set cell ((cs.getD cell []).length:Int) else (List.replicate 24 0).set cell ((cs.getD cell []).length:Int)⟩:Write)=w
 have hg :∀i,i<24→(cs.getD i []).length≤((cs.set cell (cs.getD cell []++[w])).getD i []).length:=fun i hi=>by
  rw [getD_set_eq _ _ _ _ _ hcl]
  split
  ·rename_i e
   subst e
   simp
  ·exact Nat.le_refl _
 have hn:(((cs.set cell (cs.getD cell []++[w])).getD cell []).length:Int)=(cs.getD cell []).length+1:=by
  rw [getD_set_eq _ _ _ _ _ hcl,if_pos rfl]
  simp
 have ho:VOk (cs.set cell (cs.getD cell []++[w])) (view.set cell ((cs.getD cell []).length:Int)):=(h.grow hg).set cell _ (by omega) (by omega)
 have hwe:w.view=if go then view.set cell ((cs.getD cell []).length:Int) else (List.replicate 24 0).set cell ((cs.getD cell []).length:Int):=by rw [←hw]
 have hwv:VOk (cs.set cell (cs.getD cell []++[w])) w.view:=by
  rw [hwe]
  split
  ·exact ho
  ·exact ((VOk.zero hm).grow hg).set cell _ (by omega) (by omega)
 refine ⟨⟨by rw [List.length_set]; exact hm.len,fun i hi=>?_,fun i hi x hx=>?_⟩,ho,hg⟩
 ·rw [getD_set_eq _ _ _ _ _ hcl]
  split
  ·rw [List.length_append]
   simp only [List.length_singleton]
   omega
  ·exact hm.cell i hi
 ·rw [getD_set_eq _ _ _ _ _ hcl] at hx
  split at hx
  ·rcases List.mem_append.1 hx with hx | hx
   ·exact (hm.view cell hc x hx).grow hg
   ·rw [List.mem_singleton.1 hx]
    exact hwv
  ·exact (hm.view i hi x hx).grow hg
theorem access_ok {cs:List (List Write)} {k:Core} {s:Step} {cell:Nat} {late:Int} (hm:MmOk cs) (h:VOk cs k.view) (hc:cell<24) (hr:s.op≠5→(cs.getD cell []).length<4000) :
  MmOk (access cs k s cell late).1∧VOk (access cs k s cell late).1 (access cs k s cell late).2.view∧(∀i,i<24→(cs.getD i []).length≤((access cs k s cell late).1.getD i []).length)∧(access cs k s cell late).2.regs.length=k.regs.length∧(access cs k s cell late).2.at_=k.at_∧(access cs k s cell late).2.st=k.st:=by
 unfold access
 split
 ·dsimp only
  exact ⟨hm,load_ok hm h hc,fun _ _=>Nat.le_refl _,by simp,rfl,rfl⟩
 ·rename_i h5
  split
  ·dsimp only
   have hs:=store_mem (go:=true) (v:=rg k s.b) hm (load_ok (late:=0) (hold:=true) hm h hc) hc (hr h5)
   exact ⟨hs.1,hs.2.1,hs.2.2,by simp,rfl,rfl⟩
  ·dsimp only
   have hs:=store_mem (go:=decide (s.op=7)) (v:=rg k s.b) hm h hc (hr h5)
   exact ⟨hs.1,hs.2.1,hs.2.2,rfl,rfl,rfl⟩
theorem setK_at (m:Machine) (i j:Nat) (k:Core) (h:i<m.cores.length):coreAt (setK m i k) j=if j=i then k else coreAt m j:=getD_set_eq _ _ _ _ _ h
theorem setK_ok {m:Machine} (h:MOk m) {i:Nat} (hi:i<m.cores.length) {k:Core} (h1:k.regs.length=8) (h2:0≤k.at_) (h3:k.at_<((m.codes.getD i []).length:Int)) (h4:0≤k.st) (h5:k.st≤2) (h6:VOk m.mem.cells k.view):MOk (setK m i k):=by
 refine ⟨h.n1,h.n4,by simp [setK,h.cores],h.mem,by simpa [setK] using h.tr,fun j hj=>?_⟩
 have hj':j<m.cores.length:=by simpa [setK] using hj
 have hc:=h.core j hj'
 have e:=setK_at m i j k hi
 by_cases hji:j=i
 ·rw [if_pos hji] at e
  subst hji
  exact ⟨hc.code,by rw [e]; exact h1,by rw [e]; exact h2,by rw [e]; exact h3,by rw [e]; exact h4,by rw [e]; exact h5,by rw [e]; exact h6⟩
 ·rw [if_neg hji] at e
  exact ⟨hc.code,by rw [e]; exact hc.regs,by rw [e]; exact hc.at0,by rw [e]; exact hc.at1,by rw [e]; exact hc.st0,by rw [e]; exact hc.st1,by rw [e]; exact hc.view⟩
theorem goOn_ok {m:Machine} (h:MOk m) {i:Nat} (hi:i<m.cores.length) {k:Core} {next:Int} (h1:k.regs.length=8) (h2:0≤k.at_) (h3:k.at_<((m.codes.getD i []).length:Int)) (h4:0≤k.st) (h5:k.st≤2) (h6:VOk m.mem.cells k.view) (hn:0≤next):MOk (goOn m i k next):=by
 unfold goOn
 split
 ·exact setK_ok h hi h1 h2 h3 (by simp) (by simp) h6
 ·rename_i hl
  exact setK_ok h hi h1 hn (by simp only; omega) h4 h5 h6
theorem mcode_in {m:Machine} {who:Int} (h:mcode m who=0):0≤who∧who.toNat<m.cores.length∧(coreAt m who.toNat).st=0∧((stepAt m who.toNat).op=9→(m.tr.length:Int)≠4000)∧(isMem (stepAt m who.toNat).op=true→(stepAt m who.toNat).op≠5→within (cellOf (coreAt m who.toNat) (stepAt m who.toNat)) 0 23=true→(m.mem.cells.getD (cellOf (coreAt m who.toNat) (stepAt m who.toNat)).toNat []).length<4000):=by
 unfold mcode at h
 split at h
 ·rename_i hw
  rw [within_iff] at hw
  simp only at h
  split at h
  ·simp at h
  ·rename_i h1
   split at h
   ·simp at h
   ·rename_i h2
    refine ⟨hw.1,by omega,?_,fun h9 h4=>h1 (.inr ⟨h9,h4⟩),fun hm h5 hc=>?_⟩
    ·apply Decidable.byContradiction
     exact fun e=>h1 (.inl e)
    ·simp only [hm,hc,h5,decide_false,Bool.not_false,Bool.and_true,Bool.true_and,decide_eq_true_eq] at h2
     omega
 ·simp at h
theorem stepAt_ok {m:Machine} (h:MOk m) {i:Nat} (hi:i<m.cores.length):stepOk (stepAt m i) ((m.codes.getD i []).length:Int)=true:=by
 have hc:=h.core i hi
 have:=hc.code
 unfold codeOk at this
 simp only [Bool.and_eq_true,List.all_eq_true] at this
 have h0:=hc.at0
 have h1:=hc.at1
 exact this.1.2 _ (qAd _ _ _ (by omega))
theorem step_jump {s:Step} {n:Int} (h:stepOk s n=true) (ho:s.op=10∨s.op=11):0≤s.n∧s.n<n:=by
 unfold stepOk at h
 rcases ho with ho | ho
 ·simp [ho] at h
  omega
 ·simp [ho] at h
  omega
theorem alu_keeps (k:Core) (s:Step):(alu k s).regs.length=k.regs.length∧(alu k s).at_=k.at_∧(alu k s).st=k.st∧(alu k s).view=k.view:=by
 unfold alu setR
 repeat' split
 all_goals simp
theorem mdo_ok {m:Machine} {who late:Int} (h:MOk m) (hc:mcode m who=0):MOk (mdo m who.toNat late):=by
 obtain ⟨w0,hi,hst,htr,hroom⟩:=mcode_in hc
 have hk:=h.core _ hi
 have hs:=stepAt_ok h hi
 have k1:=hk.regs
 have k2:=hk.at0
 have k3:=hk.at1
 have k4:=hk.st0
 have k5:=hk.st1
 have k6:=hk.view
 unfold mdo
 simp only
 split
 ·exact setK_ok h hi k1 k2 k3 (by simp) (by simp) k6
 ·split
  ·exact setK_ok h hi k1 k2 k3 (by simp) (by simp) k6
  ·split
   ·rename_i hm
    split
    ·rename_i hw
     have hroom':=fun h5=>hroom hm h5 hw
     rw [within_iff] at hw
     have ha:=access_ok (late:=late) (s:=stepAt m who.toNat) h.mem k6 (show (cellOf (coreAt m who.toNat) (stepAt m who.toNat)).toNat<24 by omega) hroom'
     generalize access m.mem.cells (coreAt m who.toNat) (stepAt m who.toNat) (cellOf (coreAt m who.toNat) (stepAt m who.toNat)).toNat late=r at ha
     obtain ⟨a1,a2,a3,a4,a5,a6⟩:=ha
     have hM:MOk {m with mem:=⟨r.1⟩}:=⟨h.n1,h.n4,h.cores,a1,h.tr,fun j hj=>by
      have hj:=h.core j hj
      exact ⟨hj.code,hj.regs,hj.at0,hj.at1,hj.st0,hj.st1,hj.view.grow a3⟩⟩
     exact goOn_ok hM hi (by omega) (by omega) (by simp only; omega) (by omega) (by omega) a2 (by omega)
    ·exact setK_ok h hi k1 k2 k3 (by simp) (by simp) k6
   ·split
    ·rename_i h9
     have ht:=h.tr
     have hM:MOk {m with tr:=m.tr++[⟨(who.toNat:Int),rg (coreAt m who.toNat) (stepAt m who.toNat).a⟩]}:=⟨h.n1,h.n4,h.cores,h.mem,by
      have h4:=htr h9
      unfold notesOk at ht⊢
      simp only [Bool.and_eq_true,decide_eq_true_eq,List.all_append,List.all_cons,List.all_nil,within_iff,List.length_append,List.length_cons,List.length_nil] at ht⊢
      refine ⟨⟨ht.1,by omega,trivial⟩,by omega⟩,fun j hj=>by
      have hj:=h.core j hj
      exact ⟨hj.code,hj.regs,hj.at0,hj.at1,hj.st0,hj.st1,hj.view⟩⟩
     exact goOn_ok hM hi k1 k2 k3 k4 k5 k6 (by omega)
    ·obtain ⟨a1,a2,a3,a4⟩:=alu_keeps (coreAt m who.toNat) (stepAt m who.toNat)
     refine goOn_ok h hi (by omega) (by omega) (by omega) (by omega) (by omega) (by rw [a4]; exact k6) ?_
     unfold nextAt
     split
     ·exact (step_jump hs (.inl (by assumption))).1
     ·split
      ·rename_i hz
       exact (step_jump hs (.inr hz.1)).1
      ·omega
theorem mstep_ok {m:Machine} (x:Pick) (h:machineOk m=true):machineOk (mstep m x).1=true:=by
 unfold mstep
 split
 ·exact (qC0 _).2 (mdo_ok ((qC0 m).1 h) (by assumption))
 ·exact h
end Go.Sep
