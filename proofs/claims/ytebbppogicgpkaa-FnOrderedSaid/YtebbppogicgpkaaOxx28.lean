/- Contracts of functions. -/
import Derived.Test.YtebbppogicgpkaaOxx27
namespace Go.Sep
set_option maxHeartbeats 16000000
open Go.Proofs
set_option linter.unusedSimpArgs false
set_option linter.unusedVariables false
set_option maxRecDepth 100000
open Nat renaming reduceAdd → qA, reduceMul → qB, reduceEqDiff → qC, reduceBEq → qD
open Int renaming reduceToNat → qE, reduceEq → qF, reduceLT → qG, reduceLE → qH
open List renaming getD_eq_getElem?_getD → gD
def m474:MFn:=⟨127,[.t 2],kr [xF 2] (.seq (kr [xv 14 0,xc1 15 19 (.t 14)] (kF 15 [xT 2])) (kr [xv 16 0,xc2 17 184 (.t 16) (xi 1),bI 18 .rem 17 4,xo 19 (.bin .add (xi 1) (.t 18)),xv 3 19] (kr [xv 20 0,xc2 21 184 (.t 20) (xi 2),bI 22 .rem 21 6,xo 23 (.bin .add (xi 2) (.t 22)),xv 4 23] (kr [xv 24 3,xo 25 (.mkSl [xz] 1 [(0,.t 24)]),xo 26 (.build [xz,xz,xz,xz,xz] [(0,1,xi 1),(1,1,xi 1),(4,1,xi 1)]),xv 27 4,xo 28 (.build [xz,xz,xz,xz,xz] [(0,1,xi 1),(1,1,xi 2),(4,1,.t 27)]),xo 29 (.build [xz,xz,xz,xz,xz] [(0,1,xi 5),(2,1,xi 0)]),xo 30 (.build [xz,xz,xz,xz,xz] [(0,1,xi 2),(1,1,xi 0),(2,1,xi 0),(3,1,xi 1)]),xo 31 (.build [xz,xz,xz,xz,xz] [(0,1,xi 4),(1,1,xi 3),(2,1,xi 0),(3,1,xi 2)]),xo 32 (.build [xz,xz,xz,xz,xz] [(0,1,xi 12),(2,1,xi 3),(4,1,xi 7)]),xo 33 (.build [xz,xz,xz,xz,xz] [(0,1,xi 11),(4,1,xi 2)]),xo 34 (.build [xz,xz,xz,xz,xz] [(0,1,xi 9)]),xo 35 (.build [xz,xz,xz,xz,xz] [(0,1,xi 13)]),xo 36 (.mkSl [xz,xz,xz,xz,xz] 9 [(0,.t 26),(1,.t 28),(2,.t 29),(3,.t 30),(4,.t 31),(5,.t 32),(6,.t 33),(7,.t 34),(8,.t 35)]),xo 37 (.build [xz,xz,xz,xz,xz] [(0,1,xi 6),(1,1,xi 0),(3,1,xi 1)]),xo 38 (.build [xz,xz,xz,xz,xz] [(0,1,xi 12),(2,1,xi 1),(4,1,xi 4)]),xo 39 (.build [xz,xz,xz,xz,xz] [(0,1,xi 10),(2,1,xi 0)]),xo 40 (.build [xz,xz,xz,xz,xz] [(0,1,xi 11)]),xo 41 (.build [xz,xz,xz,xz,xz] [(0,1,xi 13)]),xo 42 (.mkSl [xz,xz,xz,xz,xz] 5 [(0,.t 37),(1,.t 38),(2,.t 39),(3,.t 40),(4,.t 41)]),xo 43 (.mkSl [.nil] 2 [(0,.t 36),(1,.t 42)]),xo 44 (.build [.nil,.nil] [(0,1,.t 25),(1,1,.t 43)]),xo 5 (.alloc [.nil,.nil]),xS 2 5 44] (kr [xo 45 (.mkSl [xz,xz] 0 []),xv 6 45] (.seq (kr [xI 7 0] (.blk 0 (.loop (.seq (kr [xv 46 7,bI 47 .lss 46 3500] (kX 47 0)) (.seq (.blk 1 (xr [xv 50 6,xv 51 0,xv 52 7,bI 53 .quo 52 5,xv 54 7,bI 55 .rem 54 3,bT 56 .add 53 55,xc2 57 184 (.t 51) (.t 56),bI 58 .rem 57 2,xv 59 0,xv 60 7,xc2 61 184 (.t 59) (.t 60),bI 62 .rem 61 4,xo 63 (.build [xz,xz] [(0,1,.t 58),(1,1,.t 62)]),xo 64 (.mkSl [xz,xz] 1 [(0,.t 63)]),xA 65 2 16 50 64,xv 6 65])) (xr [xv 48 7,bI 49 .add 48 1,xv 7 49])))))) (kr [xm 67 2 5,xv 68 6,xc2 69 407 (.t 67) (.t 68),xv 66 69,xX 70 66 0,xX 71 66 1,xX 72 66 2,xo 9 (.alloc [.nil,.nil,.nil,.nil]),xv 8 70,xS 4 9 71,xv 10 72] (.seq (kr [xv 73 10,xN 74 73,xv 75 74,xg 76 (.load 2 true (.t 5)) 75 false,zv 77 6 75,xg 78 (.call 410 [false,false] [.t 76,.t 77]) 75 false,zN 79 78 75,xQ 80 75 79] (kF 80 [xF 2])) (.seq (kr [xI 11 0] (.blk 2 (.loop (.seq (kr [xv 81 11,xa 82 3 9,xl 83 82,xe 84 83,bT 85 .lss 81 84] (kX 85 2)) (.seq (.blk 3 (kr [xa 88 3 9,xl 89 88,xv 90 11,xD 91 2 89 90,xa 92 0 91,xl 93 92,bI 94 .neq 93 1,xv 95 94,za 96 3 9 95,zl 97 1 96 95,zv 98 11 95,xg 99 (.iad 2 (.t 97) (.t 98)) 95 false,za 100 1 99 95,zl 101 1 100 95,zv 102 11 95,xg 103 (.bin .neq (.t 101) (.t 102)) 95 false,xQ 104 95 103] (kF 104 [xF 2]))) (xr [xv 86 11,bI 87 .add 86 1,xv 11 87])))))) (kr [xm 106 2 5,xm 107 4 9,xc3 108 404 (.t 106) (.t 107) (xi 60),xv 105 108,xX 109 105 0,xX 110 105 1,xo 12 (.alloc [.nil,.nil,.nil,.nil]),xS 4 12 109,xv 13 110] (kR [xa 111 3 12,xl 112 111,xe 113 112,xv 114 4,bT 115 .leq 113 114,xv 116 115,yv 117 13 116,yI 118 .lss 117 2 116,yv 119 118 116,za 120 3 12 119,zl 121 1 120 119,ze 122 121 119,zv 123 4 119,xg 124 (.bin .eql (.t 122) (.t 123)) 119 false,xg 125 (.pick (.t 119) (.c (.bool true)) (.t 124)) 116 true,xP 126 116 125,xv 2 126])))))))))))⟩
theorem qTu (code:List Int) (hby :∀x∈code,rV x):wD Try.prog num 474 [.sl .fz 1 (bys code)] [] (.bool true):=by
 refine EN m474 Try.func3 ?_
 unfold m474
 simp only [go_sem,seval]
 repeat refine K ?_
 refine CA [] (qUs code) ?_
 try simp only [go_sem,seval]
 repeat refine K ?_
 by_cases hbig:(1048576:Int)<code.length
 ·try simp only [go_sem,seval,hbig]
  repeat refine K ?_
  refine fz ?_; simp [yB,qW,qZ,wG,-List.drop_one]
 have hb:code.length<2^62:=by omega
 have ha1:=qAe code 1 hby
 have ha2:=qAe code 2 hby
 have m1:=Int.tmod_nonneg (a:=atF code 1) 4 ha1.1
 have m2:=Int.tmod_lt_of_pos (atF code 1) (b:=4) (by omega)
 have m3:=Int.tmod_nonneg (a:=atF code 2) 6 ha2.1
 have m4:=Int.tmod_lt_of_pos (atF code 2) (b:=6) (by omega)
 obtain ⟨n,hn⟩:=Int.eq_ofNat_of_zero_le (show 0≤1+Int.tmod (atF code 1) 4 by omega)
 obtain ⟨k,hk⟩:=Int.eq_ofNat_of_zero_le (show 0≤2+Int.tmod (atF code 2) 6 by omega)
 have w1:IntKind.i64.wrap (Int.tmod (atF code 1) 4)=Int.tmod (atF code 1) 4:=yP (by omega) (by omega)
 have w2:IntKind.i64.wrap (Int.tmod (atF code 2) 6)=Int.tmod (atF code 2) 6:=yP (by omega) (by omega)
 have w3:IntKind.i64.wrap (1+Int.tmod (atF code 1) 4)=(n:Int):=by rw [hn]; exact yP (by omega) (by omega)
 have w4:IntKind.i64.wrap (2+Int.tmod (atF code 2) 6)=(k:Int):=by rw [hk]; exact yP (by omega) (by omega)
 try simp only [go_sem,seval,hbig]
 repeat refine K ?_
 refine CA [] (qOz code 1 hb (by omega) hby) ?_
 try simp only [go_sem,seval]
 repeat refine K ?_
 try simp only [go_sem,seval,w1,w3]
 repeat refine K ?_
 refine CA [] (qOz code 2 hb (by omega) hby) ?_
 try simp only [go_sem,seval]
 repeat refine K ?_
 try simp only [go_sem,seval,w2,w4]
 repeat refine K ?_
 obtain ⟨hl1,hl2⟩:=qBy (n:=n) (k:=k) (by omega) (by omega) (by omega) (by omega)
 have hpp:=qH2 hl2
 have hlaw:=qTl (n:=n) (k:=k) (by omega) (by omega) (by omega) (by omega) (xW code 3500) (by rw [zQ]; omega)
 refine wL (ι:=Nat) (fun i=>.mk [(0,.sl .fz 1 (bys code)),(4,.int .i64 k),(5,.ptr 14 0 0),(6,.ns 15 0 (xW code i).length),(7,.int .i64 i)] [(14,2,[vP .own (vF n k)]),(15,2,aN (xW code i))] 16) (fun i=>i≤3500) (fun i=>3500-i) 0 (by simp) ?_ ?_
 ·refine Sub.trans (Sub.foldAt 13 0 11 (l:=[[.ns 11 0 9],[.ns 12 0 5]]) (i:=0) (r:=[.ns 11 0 9]) rfl (by simp) rfl (by decide) (by decide) rfl (by simp)) ?_
  refine Sub.trans (Sub.foldAt 13 0 12 (l:=[[.sl .own 5 (zT (nI k))],[.ns 12 0 5]]) (i:=1) (r:=[.ns 12 0 5]) rfl (by simp) rfl (by decide) (by decide) rfl (by simp)) ?_
  refine Sub.trans (Sub.fold1 14 0 10 rfl (by simp [-gD]<;>omega) rfl (by decide) (by decide) rfl) ?_
  simp only [fS,fS2,qA,qC]
  refine Sub.trans (Sub.fold1 14 1 13 rfl (by simp [-gD]<;>omega) rfl (by decide) (by decide) rfl) ?_
  simp only [fS,fS2,qA,qC]
  refine Sub.shape [] id (by omega) ?_ ?_ ?_ ?_<;>simp [qP]
  all_goals first | exact (zQ code 0).symm | exact ⟨⟨rfl,rfl⟩,.inl rfl⟩
 ·intro i hi
  simp only [go_sem,seval]
  refine qT (fun hc=>?_) (fun hc=>?_)
  ·simp only [decide_eq_true_eq] at hc
   have hil:i<3500:=by omega
   have q0:Int.tdiv (i:Int) 5=((i/5:Nat):Int):=by rw [Int.tdiv_eq_ediv_of_nonneg (by omega)]; omega
   have q1:Int.tmod (i:Int) 3=((i%3:Nat):Int):=by rw [Int.tmod_eq_emod_of_nonneg (by omega)]; omega
   have w5:IntKind.i64.wrap ((i/5:Nat):Int)=((i/5:Nat):Int):=yP (by omega) (by omega)
   have w6:IntKind.i64.wrap ((i%3:Nat):Int)=((i%3:Nat):Int):=yP (by omega) (by omega)
   have w7:IntKind.i64.wrap (((i/5:Nat):Int)+((i%3:Nat):Int))=((i/5+i%3:Nat):Int):=by rw [yP (by omega) (by omega)]; omega
   have b1:=qAe code (i/5+i%3) hby
   have b2:=qAe code i hby
   have c1:=Int.tmod_nonneg (a:=atF code (i/5+i%3)) 2 b1.1
   have c2:=Int.tmod_lt_of_pos (atF code (i/5+i%3)) (b:=2) (by omega)
   have c3:=Int.tmod_nonneg (a:=atF code i) 4 b2.1
   have c4:=Int.tmod_lt_of_pos (atF code i) (b:=4) (by omega)
   have w8:IntKind.i64.wrap (Int.tmod (atF code (i/5+i%3)) 2)=Int.tmod (atF code (i/5+i%3)) 2:=yP (by omega) (by omega)
   have w9:IntKind.i64.wrap (Int.tmod (atF code i) 4)=Int.tmod (atF code i) 4:=yP (by omega) (by omega)
   have hpl:=zQ code i
   simp only [go_sem,seval,q0,q1,w5,w6,w7]
   repeat refine K ?_
   refine CA [] (qOz code (i/5+i%3) hb (by omega) hby) ?_
   try simp only [go_sem,seval]
   repeat refine K ?_
   try simp only [go_sem,seval,w8]
   repeat refine K ?_
   refine CA [] (qOz code i hb (by omega) hby) ?_
   try simp only [go_sem,seval]
   repeat refine K ?_
   try simp only [go_sem,seval,w9,wB (i:=i) (by omega),hpl]
   repeat refine K ?_
   refine wC (i+1) ?_ hil (by omega)
   refine Sub.shape [] (fun n=>if n=15 then 17 else n) (by omega) ?_ ?_ ?_ ?_<;>simp [qP]
   all_goals first | exact (zQ code (i+1)).symm | exact .inl (qG7 code i)
  ·simp only [decide_eq_false_iff_not] at hc
   have he:i=3500:=by omega
   subst he
   have hpl:=zQ code 3500
   have hpx:=qKo code 3500 hby
   generalize xW code 3500=l at *
   have cw:=oJ (vF n k) l hpp (by omega) hpx
   have ej:=tS (vF n k) l hpp (by omega) hpx
   rw [qGe] at ej
   have hsm:=qDa (vF n k) l
   generalize yG (vF n k) l=W at *
   obtain ⟨o,m,b⟩:=W
   simp only at cw ej hlaw hsm
   obtain ⟨rfl,⟨q,hq,hqt⟩,r,hr,hrt,hrd⟩:=hlaw
   have cf:=qGj (vF n k) m 60 hpp hsm
   generalize kY (vF n k) m 60=F at *
   obtain ⟨f,dn⟩:=F
   simp only at cf hrt hrd
   generalize vF n k=p at *
   simp only [go_sem,seval]
   repeat refine K ?_
   refine CA [] (cw) ?_
   try simp only [go_sem,seval]
   repeat refine K ?_
   try simp only [go_sem,seval]
   repeat refine K ?_
   refine CA [] (ej) ?_
   try simp only [go_sem,seval]
   repeat refine K ?_
   try simp only [go_sem,seval]
   repeat refine K ?_
   have hlq:m.tr.length=q:=by rw [hqt,qHa]
   have hlr:f.tr.length=r:=by rw [hrt,qHa]
   refine wL (ι:=Nat) (fun i=>.mk [(4,.int .i64 k),(5,.ptr 14 0 0),(9,.ptr 23 0 0),(11,.int .i64 i)] [(14,2,[vP .own p]),(23,4,[qS .own m])] 24) (fun i=>i≤m.tr.length) (fun i=>m.tr.length-i) 0 (by simp) ?_ ?_
   ·refine Sub.trans (Sub.fold1 14 0 16 rfl (by simp [-gD]<;>omega) rfl (by decide) (by decide) rfl) ?_
    simp only [fS,fS2,qA,qC]
    refine Sub.trans (Sub.fold1 14 1 17 rfl (by simp [-gD]<;>omega) rfl (by decide) (by decide) rfl) ?_
    simp only [fS,fS2,qA,qC]
    refine Sub.trans (Sub.fold1 23 0 19 rfl (by simp [-gD]<;>omega) rfl (by decide) (by decide) rfl) ?_
    simp only [fS,fS2,qA,qC]
    refine Sub.trans (Sub.fold1 23 1 20 rfl (by simp [-gD]<;>omega) rfl (by decide) (by decide) rfl) ?_
    simp only [fS,fS2,qA,qC]
    refine Sub.trans (Sub.fold1 23 2 21 rfl (by simp [-gD]<;>omega) rfl (by decide) (by decide) rfl) ?_
    simp only [fS,fS2,qA,qC]
    refine Sub.trans (Sub.fold1 23 3 22 rfl (by simp [-gD]<;>omega) rfl (by decide) (by decide) rfl) ?_
    simp only [fS,fS2,qA,qC]
    refine Sub.shape [] id (by omega) ?_ ?_ ?_ ?_<;>simp [qP]
   ·intro i hi
    simp only [go_sem,seval]
    refine qT (fun hc=>?_) (fun hc=>?_)
    ·simp only [decide_eq_true_eq] at hc
     have hil:i<m.tr.length:=by omega
     have hg:m.tr.getD i default=⟨1,(i:Int)⟩:=by rw [hqt]; exact qMl (by omega)
     simp only [go_sem,seval,mL m.tr i hil,hg,wB (i:=i) (by omega)]
     repeat refine K ?_
     refine wC (i+1) ?_ hil (by omega)
     refine Sub.trans (Sub.fold1 23 3 24 rfl (by simp [-gD]<;>omega) rfl (by decide) (by decide) rfl) ?_
     simp only [fS,fS2,qA,qC]
     refine Sub.shape [] id (by omega) ?_ ?_ ?_ ?_<;>simp [qP]
    ·simp only [decide_eq_false_iff_not] at hc
     have hle:((f.tr.length:Nat):Int)≤k:=by omega
     simp only [go_sem,seval]
     repeat refine K ?_
     refine CA [] (cf) ?_
     try simp only [go_sem,seval]
     repeat refine K ?_
     try simp only [go_sem,seval,hle]
     repeat refine K ?_
     by_cases hd:((dn:Nat):Int)<2
     ·try simp only [go_sem,seval,hd,hle]
      repeat refine K ?_
      refine fz ?_; simp [yB,qW,qZ,wG,-List.drop_one]
     ·have he2:((f.tr.length:Nat):Int)=k:=by have:=hrd (by omega); omega
      try simp only [go_sem,seval,hd,hle,he2]
      repeat refine K ?_
      refine fz ?_; simp [yB,qW,qZ,wG,-List.drop_one]
end Go.Sep
