/- Contracts of functions. -/
import Derived.Test.YtfecojefbnnknaaGreatRxx15
open List renaming drop_one → wD9
open Nat renaming add_assoc → wBq
namespace Go.Sep
set_option maxHeartbeats 16000000
open Go.Proofs
set_option linter.unusedSimpArgs false
set_option linter.unusedVariables false
set_option maxRecDepth 100000
def m216:MFn:=⟨34,[.t 4],kr [xo 4 (.mv (.c (.nil)))] (kr [xv 7 0,xv 8 1,xD 9 5 7 8,xm 10 5 9,xo 5 (.alloc [xz,xz,xz,xz,xz]),xS 5 5 10] (.seq (kr [xa 11 0 5,xl 12 11] (.blk 0 (kr [bI 14 .eql 12 13,xv 13 14] (.cond 13 (kR [xo 4 (.mv (.c (.nil)))]) (kr [bI 16 .eql 12 11,xv 15 16] (.cond 15 (kR [xa 17 4 5,xl 18 17,xo 19 (.mkSl [xz] 1 [(0,.t 18)]),xv 4 19]) (kr [bI 21 .eql 12 12,xv 20 21] (.cond 20 (kr [xv 22 1,bI 23 .add 22 1,xa 24 4 5,xl 25 24,xo 26 (.mkSl [xz] 2 [(0,.t 23),(1,.t 25)]),xv 6 26] (kr [xv 27 6,xo 28 (.call 219 [true] [.t 27])] (kR [xv 29 6,xo 30 (.call 220 [true] [.t 29]),xv 4 30]))) (.skip))))))))) (kR [xv 31 1,bI 32 .add 31 1,xo 33 (.mkSl [xz] 1 [(0,.t 32)]),xv 4 33])))⟩
def m219:MFn:=⟨11,[],kr [xv 3 0,xe 4 3,xv 2 4] (xr [xv 5 0,xv 6 2,xv 7 2,xo 8 (.cvi .u64 (.t 7)),xc1 9 272 (.t 8),xo 10 (.call 273 [true,false,false,false] [.t 5,xi 0,.t 6,.t 9])])⟩
def m220:MFn:=⟨61,[.t 2],kr [xo 2 (.mv (.c (.nil)))] (.seq (kr [xv 6 0,xe 7 6,bI 8 .lss 7 2] (kF 8 [xv 9 0,xv 2 9])) (.seq (kr [xI 3 1] (.blk 0 (.loop (.seq (kr [xv 10 3,xv 11 0,xe 12 11,bT 13 .lss 10 12] (kX 13 0)) (.seq (.blk 1 (.seq (.dreg (.take 0 (xv 16 0) (.take 1 (xv 17 3) (.take 2 (xD 18 1 16 17) (.take 3 (xl 19 18) (.take 4 (xv 20 0) (.only 5 [] (xv 21 3) (.only 6 [] (bI 22 .sub 21 1) (.only 7 [4] (xD 23 1 20 22) (.only 8 [7,4] (xl 24 23) (.only 9 [3,8,2,7,0,1,4] (bT 25 .eql 19 24) (.done)))))))))))) (.cond 25 (kr [xv 26 0,xv 27 3,xo 28 (.cut 1 (.t 26) (some (.t 27)) none),xv 4 28] (.seq (kr [xI 5 1] (.blk 2 (.loop (.seq (kr [xv 29 5,xv 30 4,xe 31 30,bT 32 .lss 29 31] (kX 32 2)) (.seq (.blk 3 (.seq (.dreg (.take 0 (xv 35 4) (.take 1 (xv 36 5) (.take 2 (xD 37 1 35 36) (.take 3 (xl 38 37) (.take 4 (xv 39 4) (.only 5 [] (xv 40 5) (.only 6 [] (bI 41 .sub 40 1) (.only 7 [4] (xD 42 1 39 41) (.only 8 [7,4] (xl 43 42) (.only 9 [3,8,2,7,0,1,4] (bT 44 .neq 38 43) (.done)))))))))))) (.cond 44 (kr [xv 45 0,xv 46 3,xv 47 4,xv 48 5,xD 49 1 47 48,xl 50 49,xD 51 1 45 46,xS 1 51 50] (xr [xv 52 3,bI 53 .add 52 1,xv 3 53])) (.skip)))) (xr [xv 33 5,bI 34 .add 33 1,xv 5 34])))))) (kr [xv 54 0,xv 55 3,xo 56 (.cut 1 (.t 54) (some (.t 55)) none),⟨none,.clr [xz] (.t 56),none⟩] (kR [xv 57 0,xv 58 3,xo 59 (.cut 1 (.t 57) none (some (.t 58))),xv 2 59])))) (.skip)))) (xr [xv 14 3,bI 15 .add 14 1,xv 3 15])))))) (kR [xv 60 0,xv 2 60])))⟩
def m272:MFn:=⟨8,[.t 2],kr [xI 2 0] (.seq (.skip) (kR [xv 6 0,xc1 7 340 (.t 6),xv 2 7]))⟩
def m273:MFn:=⟨134,[],kr [xT 8] (kr [xT 9] (.blk 0 (.loop (.blk 1 (kr [xv 19 2,xv 20 1,bT 21 .sub 19 20,xv 10 21] (.seq (kr [xv 22 10,bI 23 .leq 22 12] (kF 23 [xv 24 0,xv 25 1,xv 26 2,xo 27 (.call 312 [true,false,false] [.t 24,.t 25,.t 26])])) (.seq (kr [xv 28 3,bI 29 .eql 28 0] (kF 29 [xv 30 0,xv 31 1,xv 32 2,xc3 33 313 (.t 30) (.t 31) (.t 32)])) (.seq (kr [xv 34 8,xN 35 34] (.cond 35 (kr [xv 36 0,xv 37 1,xv 38 2,xc3 39 314 (.t 36) (.t 37) (.t 38)] (xr [xv 40 3,bI 41 .sub 40 1,xv 3 41])) (.skip))) (kr [xv 43 0,xv 44 1,xv 45 2,xc3 46 315 (.t 43) (.t 44) (.t 45),xv 42 46,xX 47 42 0,xX 48 42 1,xv 11 47,xv 12 48] (.seq (kr [xv 49 12,bI 50 .eql 49 2] (.cond 50 (kr [xv 51 0,xv 52 1,xv 53 2,xc3 54 316 (.t 51) (.t 52) (.t 53)] (kr [xv 55 2,bI 56 .sub 55 1,xv 57 11,xv 58 1,bT 59 .sub 57 58,bT 60 .sub 56 59,xv 11 60] (xr [xI 12 1]))) (.skip))) (.seq (kr [xv 61 8,xv 62 61,yv 63 9 62,xP 64 62 63,xv 65 64,yv 66 12 65,yI 67 .eql 66 1 65,xP 68 65 67] (.cond 68 (kr [xv 69 0,xv 70 1,xv 71 2,xc3 72 317 (.t 69) (.t 70) (.t 71)] (.cond 72 (.ret) (.skip))) (.skip))) (.seq (.seq (.dreg (.only 0 [] (xv 73 1) (.only 1 [] (bI 74 .gtr 73 0) (.only 2 [] (xv 75 74) (.take 3 (yv 76 0 75) (.take 4 (yv 77 1 75) (.take 5 (yI 78 .sub 77 1 75) (.take 6 (xg 79 (.iad 1 (.t 76) (.t 78)) 75 true) (.take 7 (yl 80 1 79 75) (.take 8 (yv 81 0 75) (.only 9 [] (yv 82 11 75) (.only 10 [8] (xg 83 (.iad 1 (.t 81) (.t 82)) 75 true) (.only 11 [10,8] (yl 84 1 83 75) (.only 12 [7,11,6,10,3,5,8,4] (xg 85 (.call 318 [false,false] [.t 80,.t 84]) 75 true) (.only 13 [12,7,11,6,10,3,5,8,4] (yN 86 85 75) (.only 14 [13,12,7,11,6,10,3,5,8,4] (xP 87 75 86) (.done))))))))))))))))) (.cond 87 (kr [xv 88 0,xv 89 1,xv 90 2,xv 91 11,xo 92 (.call 319 [false,false,false,false] [.t 88,.t 89,.t 90,.t 91]),xv 13 92] (kr [xv 93 13,xv 1 93] (.exit 1))) (.skip))) (kr [xv 95 0,xv 96 1,xv 97 2,xv 98 11,xo 99 (.call 320 [false,false,false,false] [.t 95,.t 96,.t 97,.t 98]),xv 94 99,xX 100 94 0,xX 101 94 1,xv 14 100,xv 15 101] (kr [xv 102 15,xv 9 102] (kr [xv 103 14,xv 104 1,bT 105 .sub 103 104,xv 106 2,xv 107 14,bT 108 .sub 106 107,xv 16 105,xv 17 108] (kr [xv 109 10,bI 110 .quo 109 8,xv 18 110] (kr [xv 111 16,xv 112 17,bT 113 .lss 111 112] (.cond 113 (kr [xv 114 16,xv 115 18,bT 116 .geq 114 115,xv 8 116] (kr [xv 117 0,xv 118 1,xv 119 14,xv 120 3,xo 121 (.call 273 [true,false,false,false] [.t 117,.t 118,.t 119,.t 120])] (xr [xv 122 14,bI 123 .add 122 1,xv 1 123]))) (kr [xv 124 17,xv 125 18,bT 126 .geq 124 125,xv 8 126] (kr [xv 127 0,xv 128 14,bI 129 .add 128 1,xv 130 2,xv 131 3,xo 132 (.call 273 [true,false,false,false] [.t 127,.t 129,.t 130,.t 131])] (xr [xv 133 14,xv 2 133])))))))))))))))))))))⟩
def m312:MFn:=⟨49,[],kr [xv 8 1,bI 9 .add 8 1,xv 6 9] (.blk 0 (.loop (.seq (kr [xv 10 6,xv 11 2,bT 12 .lss 10 11] (kX 12 0)) (.seq (.blk 1 (kr [xv 15 6,xv 7 15] (.blk 2 (.loop (.seq (.seq (.dreg (.take 0 (xv 16 7) (.only 1 [] (xv 17 1) (.only 2 [0] (bT 18 .gtr 16 17) (.only 3 [2,0] (xv 19 18) (.take 4 (yv 20 0 19) (.take 5 (yv 21 7 19) (.take 6 (xg 22 (.iad 1 (.t 20) (.t 21)) 19 true) (.take 7 (yl 23 1 22 19) (.take 8 (yv 24 0 19) (.only 9 [3,2,0] (yv 25 7 19) (.only 10 [3,2,0] (yI 26 .sub 25 1 19) (.only 11 [3,8,2,0] (xg 27 (.iad 1 (.t 24) (.t 26)) 19 true) (.only 12 [3,11,2,8,0] (yl 28 1 27 19) (.only 13 [3,7,12,2,6,11,0,4,5,8] (xg 29 (.call 318 [false,false] [.t 23,.t 28]) 19 true) (.only 14 [3,13,2,7,12,0,6,11,4,5,8] (xP 30 19 29) (.done))))))))))))))))) (kX 30 2)) (.seq (.blk 3 (.dreg (.take 0 (xv 33 0) (.take 1 (xv 34 7) (.take 2 (xv 35 0) (.take 3 (xv 36 7) (.take 4 (bI 37 .sub 36 1) (.take 5 (xv 38 0) (.take 6 (xv 39 7) (.take 7 (bI 40 .sub 39 1) (.take 8 (xD 41 1 38 40) (.take 9 (xl 42 41) (.take 10 (xv 43 0) (.only 11 [] (xv 44 7) (.only 12 [10] (xD 45 1 43 44) (.only 13 [12,10] (xl 46 45) (.only 14 [0,1,5,6,7,8,9,13,12,10] (xD 47 1 33 34) (.only 15 [0,1,5,6,7,8,9,13,12,10] (xS 1 47 42) (.only 16 [0,1,2,3,4,5,6,7,8,9,10] (xD 48 1 35 37) (.only 17 [0,1,2,3,4,5,6,7,8,9,10] (xS 1 48 46) (.done))))))))))))))))))))) (xr [xv 31 7,bI 32 .sub 31 1,xv 7 32]))))))) (xr [xv 13 6,bI 14 .add 13 1,xv 6 14])))))⟩
def m318:MFn:=⟨17,[.t 4],kr [xF 4] (kR [xv 5 0,xc1 6 338 (.t 5),xv 7 6,yv 8 1 7,xg 9 (.call 338 [false] [.t 8]) 7 true,yN 10 9 7,xP 11 7 10,xv 12 11,zv 13 0 12,zv 14 1 12,xg 15 (.bin .lss (.t 13) (.t 14)) 12 false,xQ 16 12 15,xv 4 16])⟩
def m338:MFn:=⟨6,[.t 2],kr [xF 2] (kR [xv 3 0,xv 4 0,bT 5 .neq 3 4,xv 2 5])⟩
def m340:MFn:=⟨25,[.t 2],kr [xI 2 0] (.seq (kr [xv 3 0,xo 4 (.bin .geq (.t 3) (.c (.int .u64 4294967296)))] (.cond 4 (kr [xv 5 0,xo 6 (.bin .shr (.t 5) (.c (.int .u64 32))),xv 0 6] (xr [xI 2 32])) (.skip))) (.seq (kr [xv 7 0,xo 8 (.bin .geq (.t 7) (.c (.int .u64 65536)))] (.cond 8 (kr [xv 9 0,xo 10 (.bin .shr (.t 9) (.c (.int .u64 16))),xv 0 10] (xr [xv 11 2,bI 12 .add 11 16,xv 2 12])) (.skip))) (.seq (kr [xv 13 0,xo 14 (.bin .geq (.t 13) (.c (.int .u64 256)))] (.cond 14 (kr [xv 15 0,xo 16 (.bin .shr (.t 15) (.c (.int .u64 8))),xv 0 16] (xr [xv 17 2,bI 18 .add 17 8,xv 2 18])) (.skip))) (kR [xv 19 2,xv 20 0,xo 21 (.cvi .u8 (.t 20)),⟨(some 22),.idx (.c (.str ⟨#[0,1,2,2,3,3,3,3,4,4,4,4,4,4,4,4,5,5,5,5,5,5,5,5,5,5,5,5,5,5,5,5,6,6,6,6,6,6,6,6,6,6,6,6,6,6,6,6,6,6,6,6,6,6,6,6,6,6,6,6,6,6,6,6,7,7,7,7,7,7,7,7,7,7,7,7,7,7,7,7,7,7,7,7,7,7,7,7,7,7,7,7,7,7,7,7,7,7,7,7,7,7,7,7,7,7,7,7,7,7,7,7,7,7,7,7,7,7,7,7,7,7,7,7,7,7,7,7,8,8,8,8,8,8,8,8,8,8,8,8,8,8,8,8,8,8,8,8,8,8,8,8,8,8,8,8,8,8,8,8,8,8,8,8,8,8,8,8,8,8,8,8,8,8,8,8,8,8,8,8,8,8,8,8,8,8,8,8,8,8,8,8,8,8,8,8,8,8,8,8,8,8,8,8,8,8,8,8,8,8,8,8,8,8,8,8,8,8,8,8,8,8,8,8,8,8,8,8,8,8,8,8,8,8,8,8,8,8,8,8,8,8,8,8,8,8,8,8,8,8,8,8,8,8,8,8]⟩)) (.t 21),none⟩,xo 23 (.cvi .i64 (.t 22)),bT 24 .add 19 23,xv 2 24]))))⟩
attribute [local go_sem] qWz
def swp (l:List Int) (j:Nat):List Int:=(l.set (j+1) (l.getD j 0)).set j (l.getD (j+1) 0)
theorem qC3 (l:List Int) (i k:Nat) (x:Int) (h:i<l.length):(l.set i x).getD k 0=if k=i then x else l.getD k 0:=by
 simp only [List.getD_eq_getElem?_getD,List.getElem?_set]
 by_cases e:i=k
 ·subst e
  simp [h]
 ·rw [if_neg e,if_neg (fun h=>e h.symm)]
theorem tS (l:List Int) (j:Nat):(swp l j).length=l.length:=by simp [swp]
theorem qEs (l:List Int) {j:Nat} (h:j+1<l.length) (i:Nat):(swp l j).getD i 0=if i=j then l.getD (j+1) 0 else if i=j+1 then l.getD j 0 else l.getD i 0:=by
 unfold swp
 rw [qC3 _ _ _ _ (by rw [List.length_set]; omega)]
 by_cases e:i=j
 ·rw [if_pos e,if_pos e]
 ·rw [if_neg e,if_neg e,qC3 _ _ _ _ h]
def bub:Nat→List Int→List Int
 | 0,l=>l
 | j+1,l=>if l.getD (j+1) 0<l.getD j 0 then bub j (swp l j) else l
def isN:Nat→List Int→List Int
 | 0,l=>l
 | i+1,l=>bub (i+1) (isN i l)
def srt (l:List Int):List Int:=isN (l.length-1) l
theorem qSm :∀(j:Nat) (l:List Int),(bub j l).length=l.length
 | 0,l=>rfl
 | j+1,l=>by
  rw [bub]
  split
  ·rw [qSm j,tS]
  ·rfl
theorem qAi :∀(i:Nat) (l:List Int),(isN i l).length=l.length
 | 0,l=>rfl
 | i+1,l=>by rw [isN,qSm,qAi i]
theorem qRp (l:List Int):(srt l).length=l.length:=qAi _ l
theorem qPz {l:List Int} {x:Int}:x∈l↔∃i,i<l.length∧l.getD i 0=x:=by
 constructor
 ·intro h
  obtain ⟨i,hi,e⟩:=List.getElem_of_mem h
  exact ⟨i,hi,by simp [List.getD_eq_getElem?_getD,hi,e]⟩
 ·rintro ⟨i,hi,rfl⟩
  exact yB l i 0 hi
theorem qY4 {l:List Int} {j:Nat} (h:j+1<l.length) {x:Int}:x∈swp l j↔x∈l:=by
 rw [qPz,qPz,tS]
 constructor
 ·rintro ⟨i,hi,e⟩
  rw [qEs l h] at e
  split at e
  ·exact ⟨j+1,h,e⟩
  ·split at e
   ·exact ⟨j,by omega,e⟩
   ·exact ⟨i,hi,e⟩
 ·rintro ⟨i,hi,e⟩
  by_cases e1:i=j
  ·refine ⟨j+1,h,?_⟩
   rw [qEs l h,if_neg (by omega),if_pos rfl,←e1,e]
  ·by_cases e2:i=j+1
   ·refine ⟨j,by omega,?_⟩
    rw [qEs l h,if_pos rfl,←e2,e]
   ·refine ⟨i,hi,?_⟩
    rw [qEs l h,if_neg e1,if_neg e2,e]
theorem qSl :∀(j:Nat) {l:List Int} (_:j<l.length) {x:Int},x∈bub j l↔x∈l
 | 0,l,_,x=>Iff.rfl
 | j+1,l,h,x=>by
  rw [bub]
  split
  ·rw [qSl j (by rw [tS]; omega),qY4 h]
  ·exact Iff.rfl
theorem qS7 :∀(i:Nat) {l:List Int} (_:i<l.length∨i=0) {x:Int},x∈isN i l↔x∈l
 | 0,l,_,x=>Iff.rfl
 | i+1,l,h,x=>by rw [isN,qSl (i+1) (by rw [qAi]; omega),qS7 i (by omega)]
theorem qY7 {l:List Int} {x:Int}:x∈srt l↔x∈l:=qS7 _ (by omega)
def inO (l:List Int) (n:Nat):Prop :=∀a b,a<b→b≤n→l.getD a 0≤l.getD b 0
theorem qSk :∀(j:Nat) {l:List Int} {n:Nat} (_:j≤n) (_:n<l.length) (_ :∀a b,a<b→b≤n→a≠j→b≠j→l.getD a 0≤l.getD b 0) (_ :∀b,j<b→b≤n→l.getD j 0≤l.getD b 0),inO (bub j l) n
 | 0,l,n,_,_,h1,h2=>by
  intro a b hab hb
  by_cases ha:a=0
  ·rw [ha]; exact h2 b (by omega) hb
  ·exact h1 a b hab hb ha (by omega)
 | j+1,l,n,hj,hn,h1,h2=>by
  rw [bub]
  split
  ·rename_i h
   have hsw:=qEs l (j:=j) (by omega)
   refine qSk j (by omega) (by rw [tS]; exact hn) (fun a b hab hb ha hbj=>?_) (fun b hjb hb=>?_)
   ·rw [hsw,hsw,if_neg ha,if_neg hbj]
    by_cases e1:a=j+1
    ·rw [if_pos e1,if_neg (by omega)]
     exact h1 j b (by omega) hb (by omega) (by omega)
    ·rw [if_neg e1]
     by_cases e2:b=j+1
     ·rw [if_pos e2]
      exact h1 a j (by omega) (by omega) (by omega) (by omega)
     ·rw [if_neg e2]
      exact h1 a b hab hb e1 e2
   ·rw [hsw,hsw,if_pos rfl,if_neg (by omega)]
    by_cases e2:b=j+1
    ·rw [if_pos e2]; omega
    ·rw [if_neg e2]
     exact h2 b (by omega) hb
  ·rename_i h
   intro a b hab hb
   by_cases ha:a=j+1
   ·rw [ha]; exact h2 b (by omega) hb
   ·by_cases hbj:b=j+1
    ·rw [hbj]
     by_cases haj:a=j
     ·rw [haj]; omega
     ·have:=h1 a j (by omega) (by omega) ha (by omega)
      omega
    ·exact h1 a b hab hb ha hbj
theorem qS6 :∀(i:Nat) {l:List Int} (_:i<l.length∨i=0),inO (isN i l) i
 | 0,l,_=>fun a b hab hb=>by omega
 | i+1,l,h=>by
  have ih:=qS6 i (l:=l) (by omega)
  rw [isN]
  refine qSk (i+1) (Nat.le_refl _) (by rw [qAi]; omega) (fun a b hab hb _ hbi=>ih a b hab (by omega)) (fun b h1 h2=>by omega)
theorem qY6 (l:List Int) :∀a b,a<b→b<l.length→(srt l).getD a 0≤(srt l).getD b 0:=fun a b h1 h2=>qS6 (l.length-1) (by omega) a b h1 (by omega)
theorem qWg (x:Int):qY Tryz.prog num 338 [.int .i64 x] [] (.bool false):=by
 refine EN m338 Tryz.func160 ?_
 unfold m338
 simp only [go_sem,seval]
 repeat refine K ?_
 refine ⟨_,Sub.refl _,qU ?_⟩; simp [-wD9]
theorem qYr (x y:Int):qY Tryz.prog num 318 [.int .i64 x,.int .i64 y] [] (.bool (decide (x<y))):=by
 refine EN m318 Tryz.func145 ?_
 unfold m318
 simp only [go_sem,seval]
 repeat refine K ?_
 refine CA [] (qWg x) ?_
 try simp only [go_sem,seval]
 repeat refine K ?_
 try simp only [go_sem,seval]
 repeat refine K ?_
 by_cases h:x<y
 ·try simp only [go_sem,seval,h]
  repeat refine K ?_
  refine ⟨_,Sub.refl _,qU ?_⟩; simp [-wD9]
  all_goals (try simp [h])
 ·try simp only [go_sem,seval,h]
  repeat refine K ?_
  refine ⟨_,Sub.refl _,qU ?_⟩; simp [-wD9]
  all_goals (try simp [h])
theorem qO1 (l:List Int) (hl:l.length≤12):qY Tryz.prog num 312 [.ns 0 0 l.length,.int .i64 0,.int .i64 l.length] [(0,some (1,wE l),some (1,wE (srt l)))] (.tup []):=by
 refine EH m312 Tryz.func139 (hh:=by refine mL _ _ _ _ ((sU _).2 trivial) (by decide) ?_<;>simp [yZ]) ?_
 unfold m312
 have w1:IntKind.i64.wrap 1=1:=by decide
 simp only [go_sem,seval,w1]
 repeat refine K ?_
 refine qZ (ι:=Nat) (fun i=>.mk [(0,.ns 0 0 l.length),(1,.int .i64 0),(2,.int .i64 l.length),(6,.int .i64 ((i+1:Nat):Int))] [(0,1,wE (isN i l))] 10) (fun i=>i≤l.length-1) (fun i=>l.length-1-i) 0 (by simp) ?_ ?_
 ·refine Sub.shape [] id (by omega) ?_ ?_ ?_ ?_<;>simp [qK]
  all_goals exact .inl rfl
 ·intro i hi
  simp only [go_sem,seval]
  refine qP (fun hc=>?_) (fun hc=>?_)
  ·simp only [decide_eq_true_eq] at hc
   have hil:i+1<l.length:=by omega
   have hlen:=qAi i l
   simp only [go_sem,seval]
   repeat refine K ?_
   refine qZ (ι:=Nat×List Int) (fun q=>.mk [(0,.ns 0 0 l.length),(1,.int .i64 0),(2,.int .i64 l.length),(6,.int .i64 ((i+1:Nat):Int)),(7,.int .i64 q.1)] [(0,1,wE q.2)] 10) (fun q=>q.1≤i+1∧q.2.length=l.length∧bub q.1 q.2=isN (i+1) l) (fun q=>q.1) (i+1,isN i l) ⟨by simp,hlen,rfl⟩ ?_ ?_
   ·refine Sub.shape [] id (by omega) ?_ ?_ ?_ ?_<;>simp [qK]
   ·rintro ⟨j,L⟩ ⟨hj,hL,hb⟩
    simp only at hj hL hb⊢
    have ws:IntKind.i64.wrap (((i+1:Nat):Int)+1)=((i+1+1:Nat):Int):=yL (by omega) (by omega)
    cases j with
    | zero =>
     have hb':L=isN (i+1) l:=hb
     simp only [go_sem,seval,ws]
     repeat refine K ?_
     refine qM (i+1) ?_ (by omega) (by omega)
     rw [hb']
     refine Sub.shape [] id (by omega) ?_ ?_ ?_ ?_<;>simp [qK]
    | succ j =>
     have g1:=qI L (j+1) (by omega)
     have g0:=qI L j (by omega)
     have wj:IntKind.i64.wrap (((j+1:Nat):Int)-1)=(j:Int):=by rw [yL (by omega) (by omega)]; omega
     have p0:(0:Int)<((j+1:Nat):Int):=by omega
     have d0:decide ((0:Int)<((j+1:Nat):Int))=true:=decide_eq_true p0
     rw [bub] at hb
     simp only [go_sem,seval,d0,g1,g0,wj]
     repeat refine K ?_
     refine DA [] (qYr (L.getD (j+1) 0) (L.getD j 0)) ?_
     try simp only [go_sem,seval]
     repeat refine K ?_
     by_cases h:L.getD (j+1) 0<L.getD j 0
     ·rw [if_pos h] at hb
      have g2:=qI (L.set (j+1) (L.getD j 0)) j (by rw [List.length_set]; omega)
      try simp only [go_sem,seval,h,g1,g0,wj,g2]
      repeat refine K ?_
      refine qM (j,swp L j) ?_ ⟨by simp only; omega,by simp only; rw [tS]; exact hL,hb⟩ (by simp only; omega)
      refine Sub.shape [] id (by omega) ?_ ?_ ?_ ?_<;>simp [qK]
      all_goals (first | rfl | exact .inl rfl)
     ·rw [if_neg h] at hb
      try simp only [go_sem,seval,h,ws]
      repeat refine K ?_
      refine qM (i+1) ?_ (by omega) (by omega)
      rw [←hb]
      refine Sub.shape [] id (by omega) ?_ ?_ ?_ ?_<;>simp [qK]
  ·simp only [decide_eq_false_iff_not] at hc
   have he:i=l.length-1:=by omega
   subst he
   simp only [go_sem,seval]
   repeat refine K ?_
   refine fz ?_; simp [yQ,wJ,wK,wR,-wD9]
   rfl
theorem qYh (l:List Int) (k:Int) (hl:l.length≤12):qY Tryz.prog num 273 [.ns 0 0 l.length,.int .i64 0,.int .i64 l.length,.int .i64 k] [(0,some (1,wE l),some (1,wE (srt l)))] (.tup []):=by
 refine EH m273 Tryz.func123 (hh:=by refine mL _ _ _ _ ((sU _).2 trivial) (by decide) ?_<;>simp [yZ]) ?_
 have w2:IntKind.i64.wrap ((l.length:Int)-0)=l.length:=by rw [yL (by omega) (by omega)]; omega
 have w3:IntKind.i64.wrap (l.length:Int)=l.length:=yL (by omega) (by omega)
 have h12:((l.length:Nat):Int)≤12:=by omega
 unfold m273
 simp only [go_sem,seval]
 repeat refine K ?_
 refine qZ (ι:=Unit) (fun _=>.mk [(0,.ns 0 0 l.length),(1,.int .i64 0),(2,.int .i64 l.length)] [(0,1,wE l)] 10) (fun _=>True) (fun _=>0) () trivial ?_ ?_
 ·refine Sub.shape [] id (by omega) ?_ ?_ ?_ ?_<;>simp [qK]
 ·rintro _ _
  simp only [go_sem,seval,w2,w3,h12]
  repeat refine K ?_
  refine CA [] (qO1 l hl) ?_
  try simp only [go_sem,seval]
  repeat refine K ?_
  try simp only [go_sem,seval]
  repeat refine K ?_
  refine fz ?_; simp [yQ,wJ,wK,wR,-wD9]
def wAf (n:Nat):Int:=if n=0 then 0 else if n<2 then 1 else if n<4 then 2 else if n<8 then 3 else 4
theorem qZ2:qY Tryz.prog num 340 [.int .u64 0] [] (.int .i64 0):=by
 refine EN m340 Tryz.func149 ?_
 unfold m340
 have hu:IntKind.u8.wrap 0=0:=by decide
 simp only [go_sem,seval,hu]
 repeat refine K ?_
 refine ⟨by decide,?_⟩
 refine ⟨_,Sub.refl _,qU ?_⟩
 simp [-wD9,hu]
 decide
theorem qZ1:qY Tryz.prog num 340 [.int .u64 1] [] (.int .i64 1):=by
 refine EN m340 Tryz.func149 ?_
 unfold m340
 have hu:IntKind.u8.wrap 1=1:=by decide
 simp only [go_sem,seval,hu]
 repeat refine K ?_
 refine ⟨by decide,?_⟩
 refine ⟨_,Sub.refl _,qU ?_⟩
 simp [-wD9,hu]
 decide
theorem qZ0:qY Tryz.prog num 340 [.int .u64 2] [] (.int .i64 2):=by
 refine EN m340 Tryz.func149 ?_
 unfold m340
 have hu:IntKind.u8.wrap 2=2:=by decide
 simp only [go_sem,seval,hu]
 repeat refine K ?_
 refine ⟨by decide,?_⟩
 refine ⟨_,Sub.refl _,qU ?_⟩
 simp [-wD9,hu]
 decide
theorem qYz:qY Tryz.prog num 340 [.int .u64 3] [] (.int .i64 2):=by
 refine EN m340 Tryz.func149 ?_
 unfold m340
 have hu:IntKind.u8.wrap 3=3:=by decide
 simp only [go_sem,seval,hu]
 repeat refine K ?_
 refine ⟨by decide,?_⟩
 refine ⟨_,Sub.refl _,qU ?_⟩
 simp [-wD9,hu]
 decide
theorem qYy:qY Tryz.prog num 340 [.int .u64 4] [] (.int .i64 3):=by
 refine EN m340 Tryz.func149 ?_
 unfold m340
 have hu:IntKind.u8.wrap 4=4:=by decide
 simp only [go_sem,seval,hu]
 repeat refine K ?_
 refine ⟨by decide,?_⟩
 refine ⟨_,Sub.refl _,qU ?_⟩
 simp [-wD9,hu]
 decide
theorem qYx:qY Tryz.prog num 340 [.int .u64 5] [] (.int .i64 3):=by
 refine EN m340 Tryz.func149 ?_
 unfold m340
 have hu:IntKind.u8.wrap 5=5:=by decide
 simp only [go_sem,seval,hu]
 repeat refine K ?_
 refine ⟨by decide,?_⟩
 refine ⟨_,Sub.refl _,qU ?_⟩
 simp [-wD9,hu]
 decide
theorem qYw:qY Tryz.prog num 340 [.int .u64 6] [] (.int .i64 3):=by
 refine EN m340 Tryz.func149 ?_
 unfold m340
 have hu:IntKind.u8.wrap 6=6:=by decide
 simp only [go_sem,seval,hu]
 repeat refine K ?_
 refine ⟨by decide,?_⟩
 refine ⟨_,Sub.refl _,qU ?_⟩
 simp [-wD9,hu]
 decide
theorem qYv:qY Tryz.prog num 340 [.int .u64 7] [] (.int .i64 3):=by
 refine EN m340 Tryz.func149 ?_
 unfold m340
 have hu:IntKind.u8.wrap 7=7:=by decide
 simp only [go_sem,seval,hu]
 repeat refine K ?_
 refine ⟨by decide,?_⟩
 refine ⟨_,Sub.refl _,qU ?_⟩
 simp [-wD9,hu]
 decide
theorem qYu:qY Tryz.prog num 340 [.int .u64 8] [] (.int .i64 4):=by
 refine EN m340 Tryz.func149 ?_
 unfold m340
 have hu:IntKind.u8.wrap 8=8:=by decide
 simp only [go_sem,seval,hu]
 repeat refine K ?_
 refine ⟨by decide,?_⟩
 refine ⟨_,Sub.refl _,qU ?_⟩
 simp [-wD9,hu]
 decide
theorem qYt:qY Tryz.prog num 340 [.int .u64 9] [] (.int .i64 4):=by
 refine EN m340 Tryz.func149 ?_
 unfold m340
 have hu:IntKind.u8.wrap 9=9:=by decide
 simp only [go_sem,seval,hu]
 repeat refine K ?_
 refine ⟨by decide,?_⟩
 refine ⟨_,Sub.refl _,qU ?_⟩
 simp [-wD9,hu]
 decide
theorem qWb:qY Tryz.prog num 340 [.int .u64 10] [] (.int .i64 4):=by
 refine EN m340 Tryz.func149 ?_
 unfold m340
 have hu:IntKind.u8.wrap 10=10:=by decide
 simp only [go_sem,seval,hu]
 repeat refine K ?_
 refine ⟨by decide,?_⟩
 refine ⟨_,Sub.refl _,qU ?_⟩
 simp [-wD9,hu]
 decide
theorem qZz {n:Nat} (h:n≤10):IntKind.u64.wrap (n:Int)=n:=by
 obtain rfl | rfl | rfl | rfl | rfl | rfl | rfl | rfl | rfl | rfl | rfl:n=0∨n=1∨n=2∨n=3∨n=4∨n=5∨n=6∨n=7∨n=8∨n=9∨n=10:=by omega
 all_goals decide
theorem qTz (n:Nat) (h:n≤10):qY Tryz.prog num 340 [.int .u64 n] [] (.int .i64 (wAf n)):=by
 obtain rfl | rfl | rfl | rfl | rfl | rfl | rfl | rfl | rfl | rfl | rfl:n=0∨n=1∨n=2∨n=3∨n=4∨n=5∨n=6∨n=7∨n=8∨n=9∨n=10:=by omega
 ·exact qZ2
 ·exact qZ1
 ·exact qZ0
 ·exact qYz
 ·exact qYy
 ·exact qYx
 ·exact qYw
 ·exact qYv
 ·exact qYu
 ·exact qYt
 ·exact qWb
theorem qYs (n:Nat) (h:n≤10):qY Tryz.prog num 272 [.int .u64 n] [] (.int .i64 (wAf n)):=by
 refine EN m272 Tryz.func124 ?_
 unfold m272
 simp only [go_sem,seval]
 repeat refine K ?_
 refine CA [] (qTz n h) ?_
 try simp only [go_sem,seval]
 repeat refine K ?_
 try simp only [go_sem,seval]
 repeat refine K ?_
 refine ⟨_,Sub.refl _,qU ?_⟩; simp [-wD9]
theorem qMp (l:List Int) (h:l.length≤10):qY Tryz.prog num 219 [.ns 0 0 l.length] [(0,some (1,wE l),some (1,wE (srt l)))] (.tup []):=by
 refine EH m219 Tryz.func97 (hh:=by refine mL _ _ _ _ ((sU _).2 trivial) (by decide) ?_<;>simp [yZ]) ?_
 unfold m219
 have w2:=qZz h
 simp only [go_sem,seval,w2]
 repeat refine K ?_
 refine CA [] (qYs l.length h) ?_
 try simp only [go_sem,seval]
 repeat refine K ?_
 try simp only [go_sem,seval]
 repeat refine K ?_
 refine CA [] (qYh l (wAf l.length) (by omega)) ?_
 try simp only [go_sem,seval]
 repeat refine K ?_
 try simp only [go_sem,seval]
 repeat refine K ?_
 refine fz ?_; simp [yQ,wJ,wK,wR,-wD9]
attribute [local go_sem] qWz
def ddN (l:List Int):Nat→List Int
 | 0=>[]
 | 1=>[l.getD 0 0]
 | i+2=>if l.getD (i+1) 0=l.getD i 0 then ddN l (i+1) else ddN l (i+1)++[l.getD (i+1) 0]
def qEn (l:List Int):List Int:=ddN l l.length
theorem qG7 (l:List Int) {i:Nat} (h:1≤i):ddN l (i+1)=if l.getD i 0=l.getD (i-1) 0 then ddN l i else ddN l i++[l.getD i 0]:=by
 obtain ⟨k,rfl⟩ :∃k,i=k+1:=⟨i-1,by omega⟩
 rfl
theorem qSi (l:List Int) :∀{i:Nat},1≤i→1≤(ddN l i).length
 | 0,h=>absurd h (by decide)
 | 1,_=>by simp [ddN]
 | i+2,_=>by
  have:=qSi l (i:=i+1) (by omega)
  rw [ddN]
  split
  ·exact this
  ·simp
theorem qSx {A:List Int} {k:Nat} {x:Int} (h:k<A.length):(A.set k x).take (k+1)=A.take k++[x]:=by
 rw [List.take_succ_eq_append_getElem (by simpa using h)]
 simp [List.take_set_of_le]
theorem qD8 (l:List Int) (hl:l.length≤2^30):qY Tryz.prog num 220 [.ns 0 0 l.length] [(0,some (1,wE l),none)] (.sl .own 1 (wE (qEn l))):=by
 refine EH m220 Tryz.func98 (hh:=by refine mL _ _ _ _ ((sU _).2 trivial) (by decide) ?_<;>simp [yZ]) ?_
 unfold m220
 by_cases h2:l.length<2
 ·have h2':((l.length:Nat):Int)<2:=by omega
  have hu:qEn l=l:=by
   match l,h2 with
   | [],_=>rfl
   | [x],_=>rfl
  rw [hu]
  simp only [go_sem,seval,h2']
  repeat refine K ?_
  refine fz ?_; simp [yQ,wJ,wK,wR,-wD9]
 have h2' :¬((l.length:Nat):Int)<2:=by omega
 simp only [go_sem,seval,h2']
 repeat refine K ?_
 refine qZ (ι:=Nat) (fun k=>.mk [(0,.ns 0 0 l.length),(3,.int .i64 k)] [(0,1,wE l)] 10) (fun k=>1≤k∧k≤l.length∧ddN l k=l.take k) (fun k=>l.length-k) 1 ⟨by omega,by omega,?_⟩ ?_ ?_
 ·match l,h2 with
  | x::l,_=>rfl
 ·refine Sub.shape [] id (by omega) ?_ ?_ ?_ ?_<;>simp [qK]
 ·rintro k ⟨hk1,hk,hd⟩
  simp only [go_sem,seval]
  refine qP (fun hc=>?_) (fun hc=>?_)
  ·simp only [decide_eq_true_eq] at hc
   have hkl:k<l.length:=by omega
   have g1:=qI l k hkl
   have g0:=qI l (k-1) (by omega)
   have wk:IntKind.i64.wrap ((k:Int)-1)=((k-1:Nat):Int):=by rw [yL (by omega) (by omega)]; omega
   have hst:=qG7 l hk1
   by_cases he:l.getD k 0=l.getD (k-1) 0
   ·rw [if_pos he] at hst
    simp only [go_sem,seval,g1,wk,g0,he]
    repeat refine K ?_
    have hk1l:(ddN l (k+1)).length=k:=by rw [hst,hd,List.length_take]; omega
    refine qZ (ι:=Nat×Nat×List Int) (fun q=>.mk [(0,.ns 0 0 l.length),(3,.int .i64 q.2.1),(4,.ns 0 k (l.length-k)),(5,.int .i64 q.1)] [(0,1,wE q.2.2)] 10) (fun q=>1≤q.1∧k+q.1≤l.length∧q.2.2.length=l.length∧q.2.1=(ddN l (k+q.1)).length∧q.2.2.take q.2.1=ddN l (k+q.1)∧q.2.1≤k+q.1-1∧∀x,k+q.1-1≤x→q.2.2.getD x 0=l.getD x 0) (fun q=>l.length-k-q.1) (1,k,l) ⟨by simp,by simp only; omega,rfl,hk1l.symm,by simp only; rw [hst,hd],by simp only; omega,fun _ _=>rfl⟩ ?_ ?_
    ·refine Sub.shape [] id (by omega) ?_ ?_ ?_ ?_<;>simp [qK]
    ·rintro ⟨k2,kk,A⟩ ⟨a1,a2,a3,a4,a5,a6,a7⟩
     simp only at a1 a2 a3 a4 a5 a6 a7⊢
     have hpos:=qSi l (i:=k+k2) (by omega)
     simp only [go_sem,seval]
     refine qP (fun hc2=>?_) (fun hc2=>?_)
     ·simp only [decide_eq_true_eq] at hc2
      have hlt:k+k2<l.length:=by omega
      have q1:=qI A (k+k2) (by omega)
      have q0:=qI A (k+(k2-1)) (by omega)
      rw [a7 _ (by omega)] at q1
      rw [a7 _ (by omega)] at q0
      have wk2:IntKind.i64.wrap ((k2:Int)-1)=((k2-1:Nat):Int):=by rw [yL (by omega) (by omega)]; omega
      have hs2:=qG7 l (i:=k+k2) (by omega)
      rw [show k+k2-1=k+(k2-1) by omega] at hs2
      by_cases he2:l.getD (k+k2) 0=l.getD (k+(k2-1)) 0
      ·rw [if_pos he2] at hs2
       simp only [go_sem,seval,q1,q0,wk2,he2,qN (i:=k2) (by omega)]
       repeat refine K ?_
       refine qM (k2+1,kk,A) ?_ ⟨by simp,by simp only; omega,a3,by simp only; rw [a4,←wBq,hs2],by simp only; rw [←wBq,hs2,a5],by simp only; omega,fun x hx=>a7 x (by simp only at hx; omega)⟩ (by simp only; omega)
       refine Sub.shape [] id (by omega) ?_ ?_ ?_ ?_<;>simp [qK]
      ·rw [if_neg he2] at hs2
       have qk:=qI A kk (by omega)
       simp only [go_sem,seval,q1,q0,wk2,he2,qk,qN (i:=k2) (by omega),qN (i:=kk) (by omega)]
       repeat refine K ?_
       refine qM (k2+1,kk+1,A.set kk (l.getD (k+k2) 0)) ?_ ⟨by simp,by simp only; omega,by simp [a3],?_,?_,by simp only; omega,fun x hx=>?_⟩ (by simp only; omega)
       ·refine Sub.shape [] id (by omega) ?_ ?_ ?_ ?_<;>simp [qK]
       ·simp only
        rw [←wBq,hs2,List.length_append,List.length_singleton,a4]
       ·simp only
        rw [←wBq,hs2,←a5,qSx (by omega)]
       ·simp only at hx⊢
        rw [qC3 _ _ _ _ (by omega),if_neg (by omega)]
        exact a7 x (by omega)
     ·simp only [decide_eq_false_iff_not] at hc2
      have hke:k+k2=l.length:=by omega
      have hu:qEn l=A.take kk:=by unfold qEn; rw [a5,hke]
      rw [hu]
      simp only [go_sem,seval]
      repeat refine K ?_
      refine fz ?_; simp [yQ,wJ,wK,wR,-wD9]
      have hkA:kk≤A.length:=by omega
      refine ⟨by omega,?_⟩
      split
      ·rename_i h
       rw [show l.length-kk=0 by omega]
       simp
      ·have hll:(wE (A.take kk)).length=kk:=by rw [aG,List.length_take]; omega
       rw [List.take_append_of_le_length (Nat.le_of_eq hll.symm)]
       exact (List.take_of_length_le (Nat.le_of_eq hll)).symm
   ·rw [if_neg he,hd] at hst
    simp only [go_sem,seval,g1,wk,g0,he,qN (i:=k) (by omega)]
    repeat refine K ?_
    refine qM (k+1) ?_ ⟨by omega,hkl,?_⟩ (by omega)
    ·refine Sub.shape [] id (by omega) ?_ ?_ ?_ ?_<;>simp [qK]
    ·rw [hst,jX l 0 k hkl]
  ·simp only [decide_eq_false_iff_not] at hc
   have hke:k=l.length:=by omega
   have hu:qEn l=l:=by unfold qEn; rw [←hke,hd,hke,List.take_length]
   rw [hu]
   simp only [go_sem,seval]
   repeat refine K ?_
   refine fz ?_; simp [yQ,wJ,wK,wR,-wD9]
theorem qEu :∀{l k:List Int},l.Pairwise (· < ·)→k.Pairwise (· < ·)→(∀x,x∈l↔x∈k)→l=k
 | [],[],_,_,_=>rfl
 | [],b::k,_,_,h=>absurd ((h b).2 (by simp)) (by simp)
 | a::l,[],_,_,h=>absurd ((h a).1 (by simp)) (by simp)
 | a::l,b::k,h1,h2,h=>by
  rw [List.pairwise_cons] at h1 h2
  have e:a=b:=by
   have ha:=(h a).1 (by simp)
   have hb:=(h b).2 (by simp)
   rcases List.mem_cons.1 ha with e | ha
   ·exact e
   ·rcases List.mem_cons.1 hb with e | hb
    ·exact e.symm
    ·have:=h2.1 a ha
     have:=h1.1 b hb
     omega
  subst e
  rw [qEu h1.2 h2.2 fun x=>?_]
  constructor
  ·intro hx
   rcases List.mem_cons.1 ((h x).1 (List.mem_cons_of_mem _ hx)) with e | h3
   ·have:=h1.1 x hx
    omega
   ·exact h3
  ·intro hx
   rcases List.mem_cons.1 ((h x).2 (List.mem_cons_of_mem _ hx)) with e | h3
   ·have:=h2.1 x hx
    omega
   ·exact h3
theorem qX7 {s:List Int} (ho :∀a b,a<b→b<s.length→s.getD a 0≤s.getD b 0) :∀i,i+1≤s.length→(ddN s (i+1)).Pairwise (· < ·)∧(∀x∈ddN s (i+1),x≤s.getD i 0)∧∀x,x∈ddN s (i+1)↔∃m,m<i+1∧s.getD m 0=x
 | 0,h=>by
  refine ⟨by simp [ddN],by simp [ddN],fun x=>?_⟩
  simp only [ddN,List.mem_singleton]
  constructor
  ·rintro rfl
   exact ⟨0,by omega,rfl⟩
  ·rintro ⟨m,hm,e⟩
   rw [←e,show m=0 by omega]
 | i+1,h=>by
  obtain ⟨h1,h2,h3⟩:=qX7 ho i (by omega)
  have hle:=ho i (i+1) (by omega) (by omega)
  rw [qG7 s (i:=i+1) (by omega),show i+1-1=i by omega]
  split
  ·rename_i e
   refine ⟨h1,fun x hx=>by have:=h2 x hx; omega,fun x=>?_⟩
   rw [h3]
   constructor
   ·rintro ⟨m,hm,e2⟩
    exact ⟨m,by omega,e2⟩
   ·rintro ⟨m,hm,e2⟩
    by_cases hmi:m=i+1
    ·exact ⟨i,by omega,by rw [←e,←hmi,e2]⟩
    ·exact ⟨m,by omega,e2⟩
  ·rename_i e
   refine ⟨?_,fun x hx=>?_,fun x=>?_⟩
   ·rw [List.pairwise_append]
    refine ⟨h1,List.pairwise_singleton _ _,fun a ha b hb=>?_⟩
    rw [List.mem_singleton.1 hb]
    have:=h2 a ha
    omega
   ·rcases List.mem_append.1 hx with hx | hx
    ·have:=h2 x hx
     omega
    ·rw [List.mem_singleton.1 hx]
     exact Int.le_refl _
   ·rw [List.mem_append,List.mem_singleton,h3]
    constructor
    ·rintro (⟨m,hm,e2⟩ | rfl)
     ·exact ⟨m,by omega,e2⟩
     ·exact ⟨i+1,by omega,rfl⟩
    ·rintro ⟨m,hm,e2⟩
     by_cases hmi:m=i+1
     ·exact .inr (by rw [←e2,hmi])
     ·exact .inl ⟨m,by omega,e2⟩
def cn (L:List Int):List Int:=[0,1,2,3].filter fun r=>decide (r∈L)
theorem qUl (L:List Int):(cn L).Pairwise (· < ·):=List.Pairwise.filter _ (by decide)
theorem qLn (L:List Int):(cn L).length≤4:=List.length_filter_le _ _
theorem qGd {L:List Int} (h :∀r∈L,0≤r∧r<4) {r:Int}:r∈cn L↔r∈L:=by
 unfold cn
 rw [List.mem_filter,decide_eq_true_eq]
 refine ⟨fun h=>h.2,fun hr=>⟨?_,hr⟩⟩
 have:=h r hr
 simp
 omega
theorem qXc {L:List Int} :∀r∈cn L,0≤r∧r<4:=by
 intro r hr
 unfold cn at hr
 have:=(List.mem_filter.1 hr).1
 simp at this
 omega
theorem qXd {L M:List Int} (h :∀r,r∈L↔r∈M):cn L=cn M:=by
 unfold cn
 congr 1
 funext r
 simp only [h r]
theorem wAt {L:List Int} (h :∀r∈L,0≤r∧r<4):cn (cn L)=cn L:=qXd fun _=>qGd h
theorem qV8 {L:List Int} (h :∀r∈L,0≤r∧r<4):qEn (srt L)=cn L:=by
 have hl:=qRp L
 cases hn:L.length with
 | zero =>
  have e:L=[]:=List.length_eq_zero_iff.1 hn
  rw [e]
  rfl
 | succ n =>
  obtain ⟨h1,_,h3⟩:=qX7 (s:=srt L) (fun a b h1 h2=>qY6 L a b h1 (by omega)) n (by omega)
  have hu:qEn (srt L)=ddN (srt L) (n+1):=by unfold qEn; rw [hl,hn]
  rw [hu]
  refine qEu h1 (qUl L) fun x=>?_
  rw [h3,qGd h,←qY7 (l:=L),qPz]
  constructor
  ·rintro ⟨m,hm,e⟩
   exact ⟨m,by omega,e⟩
  ·rintro ⟨m,hm,e⟩
   exact ⟨m,by omega,e⟩
def qEy (a b:Int):List Int:=if b<a then [b,a] else [a,b]
def tO (a b:Int):List Int:=if a=b then [a] else [a,b]
theorem qVh (a b:Int):qY Tryz.prog num 219 [.ns 0 0 2] [(0,some (1,wE [a,b]),some (1,wE (qEy a b)))] (.tup []):=by
 have h:=qMp [a,b] (by simp)
 have e:srt [a,b]=qEy a b:=by simp [srt,isN,bub,swp,qEy]
 rw [e] at h
 exact h
theorem qD9 (a b:Int):qY Tryz.prog num 220 [.ns 0 0 2] [(0,some (1,wE [a,b]),none)] (.sl .own 1 (wE (tO a b))):=by
 have h:=qD8 [a,b] (by simp)
 have e:qEn [a,b]=tO a b:=by
  unfold qEn tO
  simp only [List.length_cons,List.length_nil,ddN]
  by_cases e:a=b
  ·subst e; simp
  ·simp [e,show¬b=a from fun h=>e h.symm]
 rw [e] at h
 exact h
theorem rX (l:List Ins) (a:Nat) (hb:wF l 3=true) (ha:a<l.length):qY Tryz.prog num 216 [.sl .bw 5 (yV l),.int .i64 a] [] (.sl .own 1 (wE (yO l a))):=by
 obtain ⟨hl1,hl2⟩:=zS hb
 have hg:=jQ l a ha
 have hw1:IntKind.i64.wrap ((a:Int)+1)=(a:Int)+1:=yL (by omega) (by omega)
 refine EN m216 Tryz.func95 ?_
 unfold m216
 simp only [go_sem,seval,hg]
 repeat refine K ?_
 unfold yO
 generalize l.getD a default=x at hg
 simp only
 by_cases h13:x.op=13
 ·try simp only [go_sem,seval,h13]
  repeat refine K ?_
  refine ⟨_,Sub.refl _,qU ?_⟩; simp [-wD9]
  all_goals (try simp [h13,wE])
 by_cases h11:x.op=11
 ·try simp only [go_sem,seval,h13,h11]
  repeat refine K ?_
  refine ⟨_,Sub.refl _,qU ?_⟩; simp [-wD9]
  all_goals (try simp [h13,h11,wE])
 by_cases h12:x.op=12
 ·have hs:=qVh ((a:Int)+1) x.n
  have hrow:[[AV.int IntKind.i64 ((a:Int)+1)],[AV.int IntKind.i64 x.n]]=wE [(a:Int)+1,x.n]:=rfl
  try simp only [go_sem,seval,h13,h11,h12,hw1,hrow]
  repeat refine K ?_
  by_cases h1:x.n<(a:Int)+1
  ·have e:qEy ((a:Int)+1) x.n=[x.n,(a:Int)+1]:=by simp [qEy,h1]
   have e2:tO x.n ((a:Int)+1)=[x.n,(a:Int)+1]:=by
    unfold tO
    rw [if_neg (by omega)]
   rw [e] at hs
   have hc:=qD9 x.n ((a:Int)+1)
   rw [e2] at hc
   refine CA [(0,11)] (hs) ?_
   try simp only [go_sem,seval]
   repeat refine K ?_
   try simp only [go_sem,seval]
   repeat refine K ?_
   refine CA [(0,11)] (hc) ?_
   try simp only [go_sem,seval]
   repeat refine K ?_
   try simp only [go_sem,seval]
   repeat refine K ?_
   refine ⟨_,Sub.refl _,qU ?_⟩; simp [-wD9]
   all_goals (try simp [h1])
  ·have e:qEy ((a:Int)+1) x.n=[(a:Int)+1,x.n]:=by simp [qEy,h1]
   rw [e] at hs
   have hc:=qD9 ((a:Int)+1) x.n
   by_cases h2:(a:Int)+1<x.n
   ·have e2:tO ((a:Int)+1) x.n=[(a:Int)+1,x.n]:=by
     unfold tO
     rw [if_neg (by omega)]
    rw [e2] at hc
    refine CA [(0,11)] (hs) ?_
    try simp only [go_sem,seval]
    repeat refine K ?_
    try simp only [go_sem,seval]
    repeat refine K ?_
    refine CA [(0,11)] (hc) ?_
    try simp only [go_sem,seval]
    repeat refine K ?_
    try simp only [go_sem,seval]
    repeat refine K ?_
    refine ⟨_,Sub.refl _,qU ?_⟩; simp [-wD9]
    all_goals (try simp [h1,h2])
   ·have e2:tO ((a:Int)+1) x.n=[(a:Int)+1]:=by
     unfold tO
     rw [if_pos (by omega)]
    rw [e2] at hc
    refine CA [(0,11)] (hs) ?_
    try simp only [go_sem,seval]
    repeat refine K ?_
    try simp only [go_sem,seval]
    repeat refine K ?_
    refine CA [(0,11)] (hc) ?_
    try simp only [go_sem,seval]
    repeat refine K ?_
    try simp only [go_sem,seval]
    repeat refine K ?_
    refine ⟨_,Sub.refl _,qU ?_⟩; simp [-wD9]
    all_goals (try simp [h1,h2])
 try simp only [go_sem,seval,h13,h11,h12,hw1]
 repeat refine K ?_
 refine ⟨_,Sub.refl _,qU ?_⟩; simp [-wD9]
 all_goals (try simp [h13,h11,h12,wE])
end Go.Sep
