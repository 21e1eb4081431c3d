/- Contracts of functions. -/
import Derived.Test.YtfecojefbnnknaaLxx25
open List renaming drop_one → wBe, length_drop → wAi
namespace Go.Sep
set_option maxHeartbeats 16000000
open Go.Proofs
set_option linter.unusedSimpArgs false
set_option linter.unusedVariables false
set_option maxRecDepth 100000
open Nat renaming reduceAdd → qA, reduceMul → qB, reduceEqDiff → qC, reduceBEq → qD
open Int renaming reduceToNat → qE, reduceEq → qF, reduceLT → qG, reduceLE → qH
open List renaming getD_eq_getElem?_getD → gD
def m488:MFn:=⟨193,[.t 2],kr [xF 2] (.seq (kr [xv 22 0,xc1 23 19 (.t 22)] (kF 23 [xT 2])) (kr [xv 25 0,xo 26 (.call 168 [true] [.t 25]),xv 24 26,xX 27 24 0,xX 28 24 1,xo 3 (.alloc [.nil,.nil]),xS 2 3 27,xv 4 28] (kr [xv 29 0,xo 30 (.call 489 [true] [.t 29]),xv 5 30] (kr [xv 31 5,xc1 32 170 (.t 31),xv 33 5,xc1 34 490 (.t 33),xv 6 32,xv 7 34] (kr [xm 36 2 3,xc1 37 24 (.t 36),xv 35 37,xX 38 35 0,xX 39 35 1,xo 8 (.alloc [.nil,.nil,.nil]),xS 3 8 38,xv 9 39] (.seq (kr [xv 40 9,xN 41 40,xv 42 41,zv 43 6 42,ze 44 43 42,zv 45 7 42,ze 46 45 42,xg 47 (.bin .neq (.t 44) (.t 46)) 42 false,xQ 48 42 47] (kF 48 [xF 2])) (.seq (kr [xI 10 0] (.blk 0 (.loop (.seq (kr [xv 49 10,xv 50 6,xe 51 50,bT 52 .lss 49 51] (kX 52 0)) (.seq (.blk 1 (.seq (.dreg (.take 0 (xv 55 6) (.take 1 (xv 56 10) (.take 2 (xD 57 1 55 56) (.take 3 (xl 58 57) (.take 4 (xv 59 7) (.only 5 [] (xv 60 10) (.only 6 [4] (xD 61 1 59 60) (.only 7 [6,4] (xl 62 61) (.only 8 [3,7,2,6,0,1,4] (xc2 63 23 (.t 58) (.t 62)) (.only 9 [8,3,7,2,6,0,1,4] (xN 64 63) (.done)))))))))))) (kF 64 [xF 2]))) (xr [xv 53 10,bI 54 .add 53 1,xv 10 54])))))) (kr [xv 65 4,xe 66 65,bI 67 .quo 66 2,xv 11 67] (.seq (.dreg (.take 0 (xm 69 2 3) (.take 1 (xm 70 3 8) (.take 2 (xv 71 4) (.only 3 [] (xv 72 11) (.only 4 [2] (xo 73 (.cut 1 (.t 71) none (some (.t 72)))) (.only 5 [0,1,4,2] (xc3 74 25 (.t 69) (.t 70) (.t 73)) (.only 6 [5,0,1,4,2] (xv 68 74) (.take 7 (xX 75 68 0) (.take 8 (xX 76 68 1) (.only 9 [0,1,2,7] (xS 3 8 75) (.done)))))))))))) (kr [xm 77 3 8,xo 12 (.alloc [.nil,.nil,.nil]),xS 3 12 77] (kr [xa 78 0 12,⟨none,.store 1 (.t 78) (.c (.nil)),none⟩] (.seq (kr [xI 13 0] (.blk 2 (.loop (.seq (kr [xv 79 13,xa 80 0 8,xl 81 80,xe 82 81,bT 83 .lss 79 82] (kX 83 2)) (.seq (.blk 3 (kr [xa 86 0 8,xl 87 86,xv 88 13,xD 89 3 87 88,xm 90 3 89,xo 14 (.alloc [.int .i64 0,.nil,.int .i64 0]),xS 3 14 90] (kr [xo 91 (.mkSl [xz] 0 []),xa 92 1 14,xl 93 92,xA 94 1 8 91 93,xa 95 1 14,xS 1 95 94] (kr [xa 96 1 3,xl 97 96,xv 98 13,xD 99 1 97 98,xl 100 99,xc1 101 170 (.t 100),xv 15 101] (.seq (kr [xI 16 0] (.blk 4 (.loop (.seq (kr [xv 102 16,bI 103 .lss 102 4] (kX 103 4)) (.seq (.blk 5 (kr [xv 106 15,xa 107 0 14,xl 108 107,xD 109 1 106 108,xl 110 109,xv 111 16,xc2 112 491 (.t 110) (.t 111),xN 113 112] (.cond 113 (.dreg (.take 0 (xa 114 1 14) (.take 1 (xl 115 114) (.take 2 (xv 116 16) (.take 3 (xv 117 0) (.only 4 [] (xv 118 16) (.only 5 [3] (xc2 119 184 (.t 117) (.t 118)) (.only 6 [5,3] (xo 120 (.bin .add (xi 77) (.t 119))) (.only 7 [0,1,2,3] (xD 121 1 115 116) (.only 8 [0,1,2,3] (xS 1 121 120) (.done))))))))))) (.skip)))) (xr [xv 104 16,bI 105 .add 104 1,xv 16 105])))))) (xr [xa 122 0 12,xl 123 122,xm 124 3 14,xo 125 (.mkSl [.int .i64 0,.nil,.int .i64 0] 1 [(0,.t 124)]),xA 126 3 40 123 125,xa 127 0 12,xS 1 127 126])))))) (xr [xv 84 13,bI 85 .add 84 1,xv 13 85])))))) (.seq (.dreg (.take 0 (xm 129 2 3) (.take 1 (xm 130 3 8) (.take 2 (xv 131 4) (.take 3 (xv 132 11) (.take 4 (xo 133 (.cut 1 (.t 131) (some (.t 132)) none)) (.both 5 [0,1,4,2,3] (xc3 134 25 (.t 129) (.t 130) (.t 133)) (.take 6 (xv 128 134) (.take 7 (xX 135 128 0) (.take 8 (xX 136 128 1) (.only 9 [] (xo 17 (.alloc [.nil,.nil,.nil])) (.only 10 [0,1,2,3,4,6,7] (xS 3 17 135) (.only 11 [0,1,2,3,4,6,7,8] (xv 18 136) (.done))))))) 9 [] (xo 17 (.alloc [.nil,.nil,.nil])) (.only 5 [0,1,4,2,3] (xc3 134 25 (.t 129) (.t 130) (.t 133)) (.only 6 [5,0,1,4,2,3] (xv 128 134) (.take 7 (xX 135 128 0) (.take 8 (xX 136 128 1) (.only 10 [0,1,2,3,4,7] (xS 3 17 135) (.only 11 [0,1,2,3,4,7,8] (xv 18 136) (.done)))))))))))))) (.seq (.dreg (.take 0 (xm 138 2 3) (.take 1 (xm 139 3 12) (.take 2 (xv 140 4) (.take 3 (xv 141 11) (.take 4 (xo 142 (.cut 1 (.t 140) (some (.t 141)) none)) (.both 5 [0,1,4,2,3] (xc3 143 25 (.t 138) (.t 139) (.t 142)) (.take 6 (xv 137 143) (.take 7 (xX 144 137 0) (.take 8 (xX 145 137 1) (.only 9 [] (xo 19 (.alloc [.nil,.nil,.nil])) (.only 10 [0,1,2,3,4,6,7] (xS 3 19 144) (.only 11 [0,1,2,3,4,6,7,8] (xv 20 145) (.done))))))) 9 [] (xo 19 (.alloc [.nil,.nil,.nil])) (.only 5 [0,1,4,2,3] (xc3 143 25 (.t 138) (.t 139) (.t 142)) (.only 6 [5,0,1,4,2,3] (xv 137 143) (.take 7 (xX 144 137 0) (.take 8 (xX 145 137 1) (.only 10 [0,1,2,3,4,7] (xS 3 19 144) (.only 11 [0,1,2,3,4,7,8] (xv 20 145) (.done)))))))))))))) (.seq (kr [xv 146 18,xv 147 20,xc2 148 23 (.t 146) (.t 147),xN 149 148,xv 150 149,za 151 2 17 150,zl 152 1 151 150,za 153 2 19 150,zl 154 1 153 150,xg 155 (.call 160 [false,false] [.t 152,.t 154]) 150 false,zN 156 155 150,xQ 157 150 156] (kF 157 [xF 2])) (.seq (kr [xI 21 0] (.blk 6 (.loop (.seq (kr [xv 158 21,xa 159 0 17,xl 160 159,xe 161 160,bT 162 .lss 158 161] (kX 162 6)) (.seq (.blk 7 (.seq (.dreg (.take 0 (xa 165 0 17) (.take 1 (xl 166 165) (.take 2 (xv 167 21) (.take 3 (xD 168 3 166 167) (.take 4 (xa 169 0 168) (.take 5 (xl 170 169) (.take 6 (xa 171 0 19) (.take 7 (xl 172 171) (.only 8 [] (xv 173 21) (.only 9 [7,6] (xD 174 3 172 173) (.only 10 [9,7,6] (xa 175 0 174) (.only 11 [10,9,7,6] (xl 176 175) (.only 12 [5,11,4,10,3,9,1,2,7,0,6] (bT 177 .neq 170 176) (.only 13 [12,5,11,4,10,3,9,1,2,7,0,6] (xv 178 177) (.take 14 (za 179 0 17 178) (.take 15 (zl 180 1 179 178) (.take 16 (zv 181 21 178) (.take 17 (xg 182 (.iad 3 (.t 180) (.t 181)) 178 false) (.take 18 (za 183 2 182 178) (.take 19 (zl 184 1 183 178) (.take 20 (za 185 0 19 178) (.take 21 (zl 186 1 185 178) (.only 22 [13,12,5,11,4,10,3,9,1,2,7,0,6] (zv 187 21 178) (.only 23 [13,21,12,20,5,11,4,10,3,9,1,2,7,0,6] (xg 188 (.iad 3 (.t 186) (.t 187)) 178 false) (.only 24 [13,23,12,21,5,11,20,4,10,3,9,1,2,7,0,6] (za 189 2 188 178) (.only 25 [13,24,12,23,5,11,21,4,10,20,3,9,1,2,7,0,6] (zl 190 1 189 178) (.only 26 [13,19,25,12,18,24,5,11,17,23,4,10,15,16,21,3,9,14,20,1,2,7,0,6] (xg 191 (.bin .neq (.t 184) (.t 190)) 178 false) (.only 27 [13,26,12,19,25,5,11,18,24,4,10,17,23,3,9,15,16,21,1,2,7,14,20,0,6] (xQ 192 178 191) (.done)))))))))))))))))))))))))))))) (kF 192 [xF 2]))) (xr [xv 163 21,bI 164 .add 163 1,xv 21 164])))))) (kR [xT 2])))))))))))))))))⟩
def oX (code:List Int) (V regs:List Int):Nat→List Int
 | 0=>regs
 | r+1=>if (r:Int)∈V then oX code V regs r else (oX code V regs r).set r (77+atF code r)
theorem mJ (code V regs:List Int) :∀r,(oX code V regs r).length=regs.length
 | 0=>rfl
 | r+1=>by
  unfold oX
  split
  ·exact mJ code V regs r
  ·rw [List.length_set]; exact mJ code V regs r
theorem qH6 {code V regs:List Int} {r:Nat} (hr:(r:Int)∈V) :∀n,n≤regs.length→(oX code V regs n).getD r 0=regs.getD r 0
 | 0,_=>rfl
 | n+1,h=>by
  have ih:=qH6 (code:=code) (regs:=regs) hr n (by omega)
  unfold oX
  split
  ·exact ih
  ·rename_i hn
   rw [qAz (oX code V regs n) 0 n r (77+atF code n) (by rw [mJ]; omega),if_neg (fun e=>hn (by rw [←e]; exact hr))]
   exact ih
noncomputable def qI0 (code:List Int) (l:List Ins) (t:yJ):yJ:=⟨t.at_,oX code ((dA l).getD t.at_.toNat []) t.regs 4,t.st⟩
noncomputable def qCo (code:List Int) (p:wU) (s:qS):Nat→List yJ
 | 0=>[]
 | i+1=>qCo code p s i++[qI0 code (p.bods.getD i []) (s.ths.getD i default)]
theorem sK (code:List Int) (p:wU) (s:qS) :∀i,(qCo code p s i).length=i
 | 0=>rfl
 | i+1=>by rw [qCo,List.length_append,sK code p s i]; rfl
theorem qPt (code:List Int) (p:wU) (s:qS) {i:Nat} :∀n,i<n→(qCo code p s n).getD i default=qI0 code (p.bods.getD i []) (s.ths.getD i default)
 | 0,h=>by omega
 | n+1,h=>by
  have hl:=sK code p s n
  rw [qCo,List.getD_eq_getElem?_getD]
  by_cases e:i=n
  ·subst e
   rw [List.getElem?_append_right (by omega),hl]
   simp
  ·rw [List.getElem?_append_left (by omega),←List.getD_eq_getElem?_getD]
   exact qPt code p s n (by omega)
noncomputable def pV (code:List Int) (p:wU) (s:qS):qS:=⟨qCo code p s s.ths.length,s.chs,s.tr⟩
theorem qRf (code:List Int) {p:wU} {s:qS} (h:qY p s=true):LvI p p s (pV code p s):=by
 have hs:=(yS p s).1 h
 have hlen:(pV code p s).ths.length=s.ths.length:=sK code p s _
 have hat :∀i,i<s.ths.length→(pV code p s).ths.getD i default=qI0 code (p.bods.getD i []) (s.ths.getD i default):=fun i hi=>qPt code p s _ hi
 have htr:(pV code p s).tr=s.tr:=rfl
 have hch:(pV code p s).chs=s.chs:=rfl
 refine ⟨h,(yS p _).2 ?_,rfl,rfl,hlen,fun i hi=>?_⟩
 ·rw [hlen,htr,hch]
  refine ⟨hs.1,hs.2.1,hs.2.2.1,hs.2.2.2.1,fun i hi=>?_,hs.2.2.2.2.2⟩
  rw [hat i hi]
  have ht:=hs.2.2.2.2.1 i hi
  unfold jZ at ht⊢
  simp only [qI0,mJ]
  exact ht
 ·have e:thd (pV code p s) i=qI0 code (p.bods.getD i []) (s.ths.getD i default):=hat i hi
  have e2:thd s i=s.ths.getD i default:=rfl
  have e3:body p i=p.bods.getD i []:=rfl
  rw [e,e2,e3]
  refine ⟨rfl,rfl,fun r hr hl=>?_⟩
  have ht:=hs.2.2.2.2.1 i hi
  unfold jZ at ht
  simp only [Bool.and_eq_true,decide_eq_true_eq,qK] at ht
  have hb3:wJ (p.bods.getD i []) 3=true:=tU h hi
  unfold qI0
  simp only
  exact qH6 ((qRz hb3 (by omega) ⟨by omega,by omega⟩).2 hl) 4 (by omega)
theorem qRy {p:wU} {s t:qS} (h:LvI p p s t) {l:List Int} (hl:l.length≤4000):LvI p p (vH p s l).1 (vH p t l).1∧(vH p t l).2=(vH p s l).2:=by
 have h4:decide ((l.length:Int)≤4000)=true:=decide_eq_true (by omega)
 have h1:=h.ok
 have h2:=h.okq
 unfold vH qWf
 rw [h1,h2,h4]
 simp only [Bool.and_self,if_true]
 rw [qJ9,qJ9]
 exact qUa h l
theorem qR6 {p:wU} {s:qS} (picks:List Int) (h:qY p s=true):qY p (vH p s picks).1=true:=by
 unfold vH
 split
 ·have:=kM h picks picks.length (Nat.le_refl _)
  rw [List.take_length] at this
  exact this.1
 ·exact h
theorem qR8 {p:wU} {s:qS} (picks:List Int) (h:qY p s=true):(vH p s picks).2.length≤picks.length:=by
 unfold vH
 split
 ·have:=kM h picks picks.length (Nat.le_refl _)
  rw [List.take_length] at this
  unfold qWf
  omega
 ·simp
theorem qYn (code:List Int) (hby :∀x∈code,qAv x):wD Try.prog num 488 [.sl .fz 1 (bys code)] [] (.bool true):=by
 refine EN m488 Try.func5 ?_
 unfold m488
 simp only [go_sem,seval]
 repeat refine K ?_
 refine CA [] (qYj code) ?_
 try simp only [go_sem,seval]
 repeat refine K ?_
 by_cases hbig:(1048576:Int)<code.length
 ·try simp only [go_sem,seval,hbig]
  repeat refine K ?_
  refine fz ?_; simp [yL,wM,wL,wR,-wBe]
 have hb:code.length<2^62:=by omega
 try simp only [go_sem,seval,hbig]
 repeat refine K ?_
 refine CA [] (qEz code hb) ?_
 try simp only [go_sem,seval]
 repeat refine K ?_
 obtain ⟨hp,hol,hox⟩:=qRg code
 generalize kQ code=w at *
 obtain ⟨p,order⟩:=w
 simp only at hp hol hox⊢
 have hpp:=qR4 hp
 have sp0:=aC hp
 have csp:=qAw p hpp.caps hpp.bods hpp.body'
 have np:(jR p).2=true:=by simp [jR,hp]
 rw [np] at csp
 generalize (jR p).1=s0 at *
 try simp only [go_sem,seval]
 repeat refine K ?_
 refine CA [] (qGk code hb) ?_
 try simp only [go_sem,seval]
 repeat refine K ?_
 have hll:=qFm code (mV code)
 generalize lO code (mV code)=L at hll
 obtain ⟨L,e⟩:=L
 simp only at hll⊢
 have ki:=pF L (by omega)
 have ks:=qG7 L (by omega)
 have hVl:(dA L).length≤24:=by
  cases hb3:wJ L 3
  ·simp [dA,hb3]
  ·rw [qAt hb3]; exact hll
 have hrow:=fun a=>@qHl L a
 generalize dA L=V at *
 try simp only [go_sem,seval]
 repeat refine K ?_
 refine CA [] (ki) ?_
 try simp only [go_sem,seval]
 repeat refine K ?_
 try simp only [go_sem,seval]
 repeat refine K ?_
 refine CA [] (ks) ?_
 try simp only [go_sem,seval]
 repeat refine K ?_
 try simp only [go_sem,seval]
 repeat refine K ?_
 refine CA [] (csp) ?_
 try simp only [go_sem,seval]
 repeat refine K ?_
 try simp only [go_sem,seval]
 repeat refine K ?_
 refine wE (ι:=Nat) (fun i=>.mk [(0,.sl .fz 1 (bys code)),(3,.ptr 13 0 0),(4,.ns 12 0 order.length),(6,.ns 15 0 V.length),(7,.ns 16 0 V.length),(8,.ptr 20 0 0),(10,.int .i64 i)] [(13,2,[dU .own p]),(12,1,wC order),(15,1,yY .own V),(16,1,yY .own V),(20,3,[jJ .own s0])] 21) (fun i=>i≤V.length) (fun i=>V.length-i) 0 (by simp) ?_ ?_
 ·refine Sub.trans (Sub.fold1 13 0 10 rfl (by simp [-gD]<;>omega) rfl (by decide) (by decide) rfl) ?_
  simp only [fS,fS3,qA,qC]
  refine Sub.trans (Sub.fold1 13 1 11 rfl (by simp [-gD]<;>omega) rfl (by decide) (by decide) rfl) ?_
  simp only [fS,fS3,qA,qC]
  refine Sub.trans (Sub.fold1 20 0 17 rfl (by simp [-gD]<;>omega) rfl (by decide) (by decide) rfl) ?_
  simp only [fS,fS3,qA,qC]
  refine Sub.trans (Sub.fold1 20 1 18 rfl (by simp [-gD]<;>omega) rfl (by decide) (by decide) rfl) ?_
  simp only [fS,fS3,qA,qC]
  refine Sub.trans (Sub.fold1 20 2 19 rfl (by simp [-gD]<;>omega) rfl (by decide) (by decide) rfl) ?_
  simp only [fS,fS3,qA,qC]
  refine Sub.shape [] id (by omega) ?_ ?_ ?_ ?_<;>simp [qM]
 ·intro i hi
  simp only [go_sem,seval]
  refine qU (fun hc=>?_) (fun hc=>?_)
  ·simp only [decide_eq_true_eq] at hc
   have hil:i<V.length:=by omega
   have hg:=lC .own V i hil
   have hgs :∀r,((yY .own V).set i r).getD i []=r:=fun r=>jK _ _ _ _ (by rw [vY]; omega)
   have hsm:(yY .own V).set i [.sl .own 1 (wC (V.getD i []))]=yY .own V:=by rw [←hg]; exact jD _ _ _ (by rw [vY]; exact hil)
   have cs:=qBm (V.getD i []) (V.getD i []) (by have:=hrow i; omega)
   rw [decide_eq_true rfl] at cs
   generalize V.getD i []=R at *
   simp only [go_sem,seval,hg,hgs,hil]
   repeat refine K ?_
   refine DA [] (cs) ?_
   try simp only [go_sem,seval]
   repeat refine K ?_
   try simp only [go_sem,seval,wA (i:=i) (by omega)]
   repeat refine K ?_
   refine qW (i+1) ?_ hil (by omega)
   refine Sub.trans (Sub.foldAt 15 0 21 rfl (by simp [-gD]<;>omega) rfl (by decide) (by decide) rfl (by simp<;>omega)) ?_
   simp only [fS,fS3,qA,qC,hsm]
   refine Sub.trans (Sub.foldAt 16 0 22 rfl (by simp [-gD]<;>omega) rfl (by decide) (by decide) rfl (by simp<;>omega)) ?_
   simp only [fS,fS3,qA,qC,hsm]
   refine Sub.shape [] id (by omega) ?_ ?_ ?_ ?_<;>simp [qM]
  ·simp only [decide_eq_false_iff_not] at hc
   have wh:IntKind.i64.wrap (Int.tdiv (order.length:Int) 2)=((order.length/2:Nat):Int):=by
    have e:Int.tdiv (order.length:Int) 2=((order.length/2:Nat):Int):=by
     rw [Int.tdiv_eq_ediv_of_nonneg (by omega)]
     omega
    rw [e,yG (by omega) (by omega)]
   have hkl:order.length/2≤order.length:=Nat.div_le_self _ _
   generalize order.length/2=k at *
   have cm:=aU p s0 (order.take k) hpp (iO sp0) (by rw [List.length_take]; omega)
   have hm:=qR6 (order.take k) sp0
   generalize vH p s0 (order.take k)=M at *
   obtain ⟨s,c⟩:=M
   simp only at cm hm
   have p1:(if order.length=k then wC order else wC (order.take k))=wC (order.take k):=by
    split
    ·rename_i h
     rw [←h,List.take_length]
    ·rfl
   have p2:(wC (order.drop k)).take (order.length-k)=wC (order.drop k):=by
    rw [List.take_of_length_le]
    rw [zJ,wAi]
    exact Nat.le_refl _
   simp only [go_sem,seval,wh]
   repeat refine K ?_
   refine DA [] (cm) ?_
   try simp only [go_sem,seval]
   repeat refine K ?_
   try simp only [go_sem,seval]
   repeat refine K ?_
   have hus:=(yS p s).1 hm
   refine wE (ι:=Nat) (fun i=>.mk [(0,.sl .fz 1 (bys code)),(3,.ptr 13 0 0),(4,.ns 12 0 order.length),(8,.ptr 20 0 0),(11,.int .i64 k),(12,.ptr 30 0 0),(13,.int .i64 i)] [(13,2,[dU .own p]),(12,1,wC order),(20,3,[[.ns 26 0 s.ths.length,.ns 27 0 s.chs.length,.ns 28 0 s.tr.length]]),(26,3,wW .own s.ths),(27,3,wF .own s.chs),(28,2,yT s.tr),(30,3,[[.sl .own 3 (wW .own (qCo code p s i)),.ns 27 0 s.chs.length,.ns 28 0 s.tr.length]])] 31) (fun i=>i≤s.ths.length) (fun i=>s.ths.length-i) 0 (by simp) ?_ ?_
   ·refine Sub.trans (Sub.fold1 13 0 21 rfl (by simp [-gD]<;>omega) rfl (by decide) (by decide) rfl) ?_
    simp only [fS,fS3,qA,qC]
    refine Sub.trans (Sub.fold1 13 1 22 rfl (by simp [-gD]<;>omega) rfl (by decide) (by decide) rfl) ?_
    simp only [fS,fS3,qA,qC]
    refine Sub.shapeN [] id (by omega) ?_ ?_ ?_ ?_<;>simp [qM]
    all_goals (show wL .nil (.sl .own 3 []); simp)
   ·intro i hi
    have hol2:=sK code p s i
    simp only [go_sem,seval]
    refine qU (fun hc=>?_) (fun hc=>?_)
    ·simp only [decide_eq_true_eq] at hc
     have hil:i<s.ths.length:=by omega
     have hib:i<p.bods.length:=by omega
     have htu:=hus.2.2.2.2.1 i hil
     unfold jZ at htu
     simp only [Bool.and_eq_true,decide_eq_true_eq,qK] at htu
     have hb3:wJ (p.bods.getD i []) 3=true:=tU hm hil
     have gtu:=qO .own s.ths i hil
     have gb:=wG .own p.bods i hib
     have gtus :∀r,((wW .own s.ths).set i r).getD i []=r:=fun r=>jK _ _ _ _ (by rw [uW]; omega)
     have gbs :∀r,((jQ .own p.bods).set i r).getD i []=r:=fun r=>jK _ _ _ _ (by rw [xG]; omega)
     have huT:(wW .own s.ths).set i [.int .i64 (s.ths.getD i default).at_,.sl .own 1 (wC (s.ths.getD i default).regs),.int .i64 (s.ths.getD i default).st]=wW .own s.ths:=by rw [←gtu]; exact jD _ _ _ (by rw [uW]; exact hil)
     have hbB:(jQ .own p.bods).set i [.sl .own 5 (vR (p.bods.getD i []))]=jQ .own p.bods:=by rw [←gb]; exact jD _ _ _ (by rw [xG]; exact hib)
     have cla:=pF (p.bods.getD i []) (hpp.body _ (yO p.bods i [] hib))
     have hVl:=qAt hb3
     have hst:qCo code p s (i+1)=qCo code p s i++[⟨(s.ths.getD i default).at_,oX code ((dA (p.bods.getD i [])).getD (s.ths.getD i default).at_.toNat []) (s.ths.getD i default).regs 4,(s.ths.getD i default).st⟩]:=rfl
     have hrw:=fun a=>@qHl (p.bods.getD i []) a
     generalize p.bods.getD i []=B at *
     generalize s.ths.getD i default=t at *
     have ha0:0≤t.at_:=by omega
     have haB:t.at_.toNat<B.length:=by omega
     generalize dA B=W at *
     have hli:((i:Nat):Int)<(p.bods.length:Nat):=by omega
     have haW:t.at_<(W.length:Nat):=by omega
     have haW2:t.at_.toNat<W.length:=by omega
     have gW:=lC .own W t.at_.toNat haW2
     have gWs :∀r,((yY .own W).set t.at_.toNat r).getD t.at_.toNat []=r:=fun r=>jK _ _ _ _ (by rw [vY]; omega)
     have hWw:(yY .own W).set t.at_.toNat [.sl .own 1 (wC (W.getD t.at_.toNat []))]=yY .own W:=by rw [←gW]; exact jD _ _ _ (by rw [vY]; omega)
     have hVw:(W.getD t.at_.toNat []).length<2^47:=by have:=hrw t.at_.toNat; omega
     generalize W.getD t.at_.toNat []=Vw at *
     simp only [go_sem,seval,gtu,gb,gbs,gtus,hil,hib,hli]
     repeat refine K ?_
     refine CA [] (cla) ?_
     try simp only [go_sem,seval]
     repeat refine K ?_
     try simp only [go_sem,seval]
     repeat refine K ?_
     refine wE (ι:=Nat) (fun r=>.mk [(0,.sl .fz 1 (bys code)),(3,.ptr 13 0 0),(4,.ns 12 0 order.length),(8,.ptr 20 0 0),(11,.int .i64 k),(12,.ptr 30 0 0),(13,.int .i64 i),(14,.ptr 32 0 0),(15,.ns 37 0 W.length),(16,.int .i64 r)] [(13,2,[dU .own p]),(12,1,wC order),(20,3,[[.ns 26 0 s.ths.length,.ns 27 0 s.chs.length,.ns 28 0 s.tr.length]]),(26,3,wW .own s.ths),(27,3,wF .own s.chs),(28,2,yT s.tr),(30,3,[[.sl .own 3 (wW .own (qCo code p s i)),.ns 27 0 s.chs.length,.ns 28 0 s.tr.length]]),(32,3,[[.int .i64 t.at_,.sl .own 1 (wC (oX code Vw t.regs r)),.int .i64 t.st]]),(37,1,yY .own W)] 38) (fun r=>r≤4) (fun r=>4-r) 0 (by simp) ?_ ?_
     ·refine Sub.trans (Sub.foldAt 26 1 31 rfl (by simp [-gD]<;>omega) rfl (by decide) (by decide) rfl (by simp<;>omega)) ?_
      simp only [fS,fS3,qA,qC,huT]
      refine Sub.trans (Sub.fold1 32 1 34 rfl (by simp [-gD]<;>omega) rfl (by decide) (by decide) rfl) ?_
      simp only [fS,fS3,qA,qC]
      refine Sub.trans (Sub.foldAt 35 0 36 rfl (by simp [-gD]<;>omega) rfl (by decide) (by decide) rfl (by simp<;>omega)) ?_
      simp only [fS,fS3,qA,qC,hbB]
      refine Sub.trans (Sub.fold1 13 1 35 rfl (by simp [-gD]<;>omega) rfl (by decide) (by decide) rfl) ?_
      simp only [fS,fS3,qA,qC]
      refine Sub.shapeN [] id (by omega) ?_ ?_ ?_ ?_<;>simp [qM]
      all_goals rfl
     ·intro r hr
      have hrl:=mJ code Vw t.regs r
      have hrn:oX code Vw t.regs (r+1)=if (r:Int)∈Vw then oX code Vw t.regs r else (oX code Vw t.regs r).set r (77+atF code r):=rfl
      simp only [go_sem,seval]
      refine qU (fun hc2=>?_) (fun hc2=>?_)
      ·simp only [decide_eq_true_eq] at hc2
       have hr4:r<4:=by omega
       simp only [go_sem,seval,gW,gWs,ha0,haW,haW2]
       repeat refine K ?_
       refine CA [] (qIn Vw r hVw) ?_
       try simp only [go_sem,seval]
       repeat refine K ?_
       by_cases hin:(r:Int)∈Vw
       ·have d1:decide ((r:Int)∈Vw)=true:=decide_eq_true hin
        rw [if_pos hin] at hrn
        try simp only [go_sem,seval,d1,wA (i:=r) (by omega)]
        repeat refine K ?_
        refine qW (r+1) ?_ hr4 (by omega)
        rw [hrn]
        refine Sub.trans (Sub.foldAt 37 0 38 rfl (by simp [-gD]<;>omega) rfl (by decide) (by decide) rfl (by simp<;>omega)) ?_
        simp only [fS,fS3,qA,qC,hWw]
        refine Sub.shapeN [] id (by omega) ?_ ?_ ?_ ?_<;>simp [qM]
       ·have d1:decide ((r:Int)∈Vw)=false:=decide_eq_false hin
        rw [if_neg hin] at hrn
        have hap:=qXi code r hby
        have w77:IntKind.i64.wrap (77+atF code r)=77+atF code r:=yG (by omega) (by omega)
        have hrr:r<(oX code Vw t.regs r).length:=by omega
        have hrr2:(r:Int)<((oX code Vw t.regs r).length:Nat):=by omega
        generalize oX code Vw t.regs r=G at *
        try simp only [go_sem,seval,d1]
        repeat refine K ?_
        refine DA [] (qZ0 code r hb (by omega) hby) ?_
        try simp only [go_sem,seval]
        repeat refine K ?_
        try simp only [go_sem,seval,w77,hrr,hrr2,qJ G r hrr,wA (i:=r) (by omega)]
        repeat refine K ?_
        refine qW (r+1) ?_ ?_ ?_
        ·rw [hrn]
         refine Sub.trans (Sub.foldAt 37 0 38 rfl (by simp [-gD]<;>omega) rfl (by decide) (by decide) rfl (by simp<;>omega)) ?_
         simp only [fS,fS3,qA,qC,hWw]
         refine Sub.trans (Sub.fold1 32 1 39 rfl (by simp [-gD]<;>omega) rfl (by decide) (by decide) rfl) ?_
         simp only [fS,fS3,qA,qC]
         refine Sub.shapeN [] id (by omega) ?_ ?_ ?_ ?_<;>simp [qM]
        ·exact hr4
        ·omega
      ·simp only [decide_eq_false_iff_not] at hc2
       have hre:r=4:=by omega
       subst hre
       have hs64:=(iO hm).ths
       simp only [go_sem,seval,wA (i:=i) (by omega)]
       repeat refine K ?_
       refine qW (i+1) ?_ ?_ ?_
       ·refine Sub.trans (Sub.foldLast 41 1 39 rfl (by simp [-gD]<;>omega) rfl (by decide) (by decide) rfl) ?_
        simp only [fS,fS3,qA,qC]
        refine Sub.trans (Sub.fold1 30 0 41 rfl (by simp [-gD]<;>omega) rfl (by decide) (by decide) rfl) ?_
        simp only [fS,fS3,qA,qC]
        refine Sub.shapeN [] id (by omega) ?_ ?_ ?_ ?_<;>simp [qM]
        all_goals (rw [hst,←aA])
        all_goals rfl
       ·exact hil
       ·omega
    ·simp only [decide_eq_false_iff_not] at hc
     have hie:i=s.ths.length:=by omega
     subst hie
     have hJ:=qRf code hm
     unfold pV at hJ
     have cu:=aU p s (order.drop k) hpp (iO hm) (by rw [wAi]; omega)
     have cv:=aU p ⟨qCo code p s s.ths.length,s.chs,s.tr⟩ (order.drop k) hpp (iO hJ.okq) (by rw [wAi]; omega)
     obtain ⟨hI,hcd⟩:=qRy hJ (l:=order.drop k) (by rw [wAi]; omega)
     clear hJ
     have hdl:(vH p s (order.drop k)).2.length≤2^47:=by
      have h1:=qR8 (order.drop k) hm
      rw [wAi] at h1
      omega
     generalize qCo code p s s.ths.length=TH at *
     generalize vH p s (order.drop k)=U at *
     generalize vH p ⟨TH,s.chs,s.tr⟩ (order.drop k)=X at *
     obtain ⟨u,cs⟩:=U
     obtain ⟨v,ds⟩:=X
     simp only at cu cv hI hcd hdl
     subst hcd
     have hsm2:=iO hI.ok
     have hsl2:=hsm2.ths
     have csi:=qBm ds ds hdl
     rw [decide_eq_true rfl] at csi
     have csn:=qJ7 u.tr v.tr (by have:=hsm2.tr; omega)
     rw [decide_eq_true hI.tr.symm] at csn
     simp only [go_sem,seval]
     repeat refine K ?_
     refine ⟨?_,?_⟩
     ·repeat refine K ?_
      refine DA [] (cu) ?_
      try simp only [go_sem,seval]
      repeat refine K ?_
      try simp only [go_sem,seval]
      repeat refine K ?_
      refine ⟨?_,?_⟩
      ·repeat refine K ?_
       refine DA [] (cv) ?_
       try simp only [go_sem,seval]
       repeat refine K ?_
       try simp only [go_sem,seval]
       repeat refine K ?_
       refine CA [] (csi) ?_
       try simp only [go_sem,seval]
       repeat refine K ?_
       try simp only [go_sem,seval]
       repeat refine K ?_
       refine CA [] (csn) ?_
       try simp only [go_sem,seval]
       repeat refine K ?_
       try simp only [go_sem,seval]
       repeat refine K ?_
       refine wE (ι:=Nat) (fun i=>.mk [(17,.ptr 37 0 0),(19,.ptr 43 0 0),(21,.int .i64 i)] [(37,3,[jJ .own u]),(43,3,[jJ .own v])] 44) (fun i=>i≤u.ths.length) (fun i=>u.ths.length-i) 0 (by simp) ?_ ?_
       ·refine Sub.trans (Sub.fold1 37 0 33 rfl (by simp [-gD]<;>omega) rfl (by decide) (by decide) rfl) ?_
        simp only [fS,fS3,qA,qC]
        refine Sub.trans (Sub.fold1 37 1 34 rfl (by simp [-gD]<;>omega) rfl (by decide) (by decide) rfl) ?_
        simp only [fS,fS3,qA,qC]
        refine Sub.trans (Sub.fold1 37 2 35 rfl (by simp [-gD]<;>omega) rfl (by decide) (by decide) rfl) ?_
        simp only [fS,fS3,qA,qC]
        refine Sub.trans (Sub.fold1 43 0 39 rfl (by simp [-gD]<;>omega) rfl (by decide) (by decide) rfl) ?_
        simp only [fS,fS3,qA,qC]
        refine Sub.trans (Sub.fold1 43 1 40 rfl (by simp [-gD]<;>omega) rfl (by decide) (by decide) rfl) ?_
        simp only [fS,fS3,qA,qC]
        refine Sub.trans (Sub.fold1 43 2 41 rfl (by simp [-gD]<;>omega) rfl (by decide) (by decide) rfl) ?_
        simp only [fS,fS3,qA,qC]
        refine Sub.shape [] (id) (by omega) ?_ ?_ ?_ ?_<;>simp [qM]
       ·intro i hi
        simp only [go_sem,seval]
        refine qU (fun hc=>?_) (fun hc=>?_)
        ·simp only [decide_eq_true_eq] at hc
         have hil:i<u.ths.length:=by omega
         have hiv:i<v.ths.length:=by have:=hI.len; omega
         obtain ⟨e1,e2,-⟩:=hI.th i hil
         unfold thd at e1 e2
         have gtu:=qO .own u.ths i hil
         have gtv:=qO .own v.ths i hiv
         rw [e1,e2] at gtv
         simp only [go_sem,seval,gtu,gtv,hil,hiv,wA (i:=i) (by omega)]
         repeat refine K ?_
         refine qW (i+1) ?_ ?_ ?_
         ·refine Sub.trans (Sub.fold1 37 0 44 rfl (by simp [-gD]<;>omega) rfl (by decide) (by decide) rfl) ?_
          simp only [fS,fS3,qA,qC]
          refine Sub.trans (Sub.fold1 43 0 45 rfl (by simp [-gD]<;>omega) rfl (by decide) (by decide) rfl) ?_
          simp only [fS,fS3,qA,qC]
          refine Sub.shape [] id (by omega) ?_ ?_ ?_ ?_<;>simp [qM]
         ·exact hil
         ·omega
        ·simp only [go_sem,seval]
         repeat refine K ?_
         refine fz ?_; simp [yL,wM,wL,wR,-wBe]
      ·repeat refine K ?_
       refine DA [] (cv) ?_
       try simp only [go_sem,seval]
       repeat refine K ?_
       try simp only [go_sem,seval]
       repeat refine K ?_
       refine CA [] (csi) ?_
       try simp only [go_sem,seval]
       repeat refine K ?_
       try simp only [go_sem,seval]
       repeat refine K ?_
       refine CA [] (csn) ?_
       try simp only [go_sem,seval]
       repeat refine K ?_
       try simp only [go_sem,seval]
       repeat refine K ?_
       refine wE (ι:=Nat) (fun i=>.mk [(17,.ptr 37 0 0),(19,.ptr 43 0 0),(21,.int .i64 i)] [(37,3,[jJ .own u]),(43,3,[jJ .own v])] 44) (fun i=>i≤u.ths.length) (fun i=>u.ths.length-i) 0 (by simp) ?_ ?_
       ·refine Sub.trans (Sub.fold1 37 0 33 rfl (by simp [-gD]<;>omega) rfl (by decide) (by decide) rfl) ?_
        simp only [fS,fS3,qA,qC]
        refine Sub.trans (Sub.fold1 37 1 34 rfl (by simp [-gD]<;>omega) rfl (by decide) (by decide) rfl) ?_
        simp only [fS,fS3,qA,qC]
        refine Sub.trans (Sub.fold1 37 2 35 rfl (by simp [-gD]<;>omega) rfl (by decide) (by decide) rfl) ?_
        simp only [fS,fS3,qA,qC]
        refine Sub.trans (Sub.fold1 39 0 40 rfl (by simp [-gD]<;>omega) rfl (by decide) (by decide) rfl) ?_
        simp only [fS,fS3,qA,qC]
        refine Sub.trans (Sub.fold1 39 1 41 rfl (by simp [-gD]<;>omega) rfl (by decide) (by decide) rfl) ?_
        simp only [fS,fS3,qA,qC]
        refine Sub.trans (Sub.fold1 39 2 42 rfl (by simp [-gD]<;>omega) rfl (by decide) (by decide) rfl) ?_
        simp only [fS,fS3,qA,qC]
        refine Sub.shape [] (fun n=>if n=43 then 39 else n) (by omega) ?_ ?_ ?_ ?_<;>simp [qM]
       ·intro i hi
        simp only [go_sem,seval]
        refine qU (fun hc=>?_) (fun hc=>?_)
        ·simp only [decide_eq_true_eq] at hc
         have hil:i<u.ths.length:=by omega
         have hiv:i<v.ths.length:=by have:=hI.len; omega
         obtain ⟨e1,e2,-⟩:=hI.th i hil
         unfold thd at e1 e2
         have gtu:=qO .own u.ths i hil
         have gtv:=qO .own v.ths i hiv
         rw [e1,e2] at gtv
         simp only [go_sem,seval,gtu,gtv,hil,hiv,wA (i:=i) (by omega)]
         repeat refine K ?_
         refine qW (i+1) ?_ ?_ ?_
         ·refine Sub.trans (Sub.fold1 37 0 44 rfl (by simp [-gD]<;>omega) rfl (by decide) (by decide) rfl) ?_
          simp only [fS,fS3,qA,qC]
          refine Sub.trans (Sub.fold1 43 0 45 rfl (by simp [-gD]<;>omega) rfl (by decide) (by decide) rfl) ?_
          simp only [fS,fS3,qA,qC]
          refine Sub.shape [] id (by omega) ?_ ?_ ?_ ?_<;>simp [qM]
         ·exact hil
         ·omega
        ·simp only [go_sem,seval]
         repeat refine K ?_
         refine fz ?_; simp [yL,wM,wL,wR,-wBe]
     ·repeat refine K ?_
      refine DA [] (cu) ?_
      try simp only [go_sem,seval]
      repeat refine K ?_
      try simp only [go_sem,seval]
      repeat refine K ?_
      refine ⟨?_,?_⟩
      ·repeat refine K ?_
       refine DA [] (cv) ?_
       try simp only [go_sem,seval]
       repeat refine K ?_
       try simp only [go_sem,seval]
       repeat refine K ?_
       refine CA [] (csi) ?_
       try simp only [go_sem,seval]
       repeat refine K ?_
       try simp only [go_sem,seval]
       repeat refine K ?_
       refine CA [] (csn) ?_
       try simp only [go_sem,seval]
       repeat refine K ?_
       try simp only [go_sem,seval]
       repeat refine K ?_
       refine wE (ι:=Nat) (fun i=>.mk [(17,.ptr 37 0 0),(19,.ptr 43 0 0),(21,.int .i64 i)] [(37,3,[jJ .own u]),(43,3,[jJ .own v])] 44) (fun i=>i≤u.ths.length) (fun i=>u.ths.length-i) 0 (by simp) ?_ ?_
       ·refine Sub.trans (Sub.fold1 33 0 34 rfl (by simp [-gD]<;>omega) rfl (by decide) (by decide) rfl) ?_
        simp only [fS,fS3,qA,qC]
        refine Sub.trans (Sub.fold1 33 1 35 rfl (by simp [-gD]<;>omega) rfl (by decide) (by decide) rfl) ?_
        simp only [fS,fS3,qA,qC]
        refine Sub.trans (Sub.fold1 33 2 36 rfl (by simp [-gD]<;>omega) rfl (by decide) (by decide) rfl) ?_
        simp only [fS,fS3,qA,qC]
        refine Sub.trans (Sub.fold1 43 0 39 rfl (by simp [-gD]<;>omega) rfl (by decide) (by decide) rfl) ?_
        simp only [fS,fS3,qA,qC]
        refine Sub.trans (Sub.fold1 43 1 40 rfl (by simp [-gD]<;>omega) rfl (by decide) (by decide) rfl) ?_
        simp only [fS,fS3,qA,qC]
        refine Sub.trans (Sub.fold1 43 2 41 rfl (by simp [-gD]<;>omega) rfl (by decide) (by decide) rfl) ?_
        simp only [fS,fS3,qA,qC]
        refine Sub.shape [] (fun n=>if n=37 then 33 else n) (by omega) ?_ ?_ ?_ ?_<;>simp [qM]
       ·intro i hi
        simp only [go_sem,seval]
        refine qU (fun hc=>?_) (fun hc=>?_)
        ·simp only [decide_eq_true_eq] at hc
         have hil:i<u.ths.length:=by omega
         have hiv:i<v.ths.length:=by have:=hI.len; omega
         obtain ⟨e1,e2,-⟩:=hI.th i hil
         unfold thd at e1 e2
         have gtu:=qO .own u.ths i hil
         have gtv:=qO .own v.ths i hiv
         rw [e1,e2] at gtv
         simp only [go_sem,seval,gtu,gtv,hil,hiv,wA (i:=i) (by omega)]
         repeat refine K ?_
         refine qW (i+1) ?_ ?_ ?_
         ·refine Sub.trans (Sub.fold1 37 0 44 rfl (by simp [-gD]<;>omega) rfl (by decide) (by decide) rfl) ?_
          simp only [fS,fS3,qA,qC]
          refine Sub.trans (Sub.fold1 43 0 45 rfl (by simp [-gD]<;>omega) rfl (by decide) (by decide) rfl) ?_
          simp only [fS,fS3,qA,qC]
          refine Sub.shape [] id (by omega) ?_ ?_ ?_ ?_<;>simp [qM]
         ·exact hil
         ·omega
        ·simp only [go_sem,seval]
         repeat refine K ?_
         refine fz ?_; simp [yL,wM,wL,wR,-wBe]
      ·repeat refine K ?_
       refine DA [] (cv) ?_
       try simp only [go_sem,seval]
       repeat refine K ?_
       try simp only [go_sem,seval]
       repeat refine K ?_
       refine CA [] (csi) ?_
       try simp only [go_sem,seval]
       repeat refine K ?_
       try simp only [go_sem,seval]
       repeat refine K ?_
       refine CA [] (csn) ?_
       try simp only [go_sem,seval]
       repeat refine K ?_
       try simp only [go_sem,seval]
       repeat refine K ?_
       refine wE (ι:=Nat) (fun i=>.mk [(17,.ptr 37 0 0),(19,.ptr 43 0 0),(21,.int .i64 i)] [(37,3,[jJ .own u]),(43,3,[jJ .own v])] 44) (fun i=>i≤u.ths.length) (fun i=>u.ths.length-i) 0 (by simp) ?_ ?_
       ·refine Sub.trans (Sub.fold1 33 0 34 rfl (by simp [-gD]<;>omega) rfl (by decide) (by decide) rfl) ?_
        simp only [fS,fS3,qA,qC]
        refine Sub.trans (Sub.fold1 33 1 35 rfl (by simp [-gD]<;>omega) rfl (by decide) (by decide) rfl) ?_
        simp only [fS,fS3,qA,qC]
        refine Sub.trans (Sub.fold1 33 2 36 rfl (by simp [-gD]<;>omega) rfl (by decide) (by decide) rfl) ?_
        simp only [fS,fS3,qA,qC]
        refine Sub.trans (Sub.fold1 39 0 40 rfl (by simp [-gD]<;>omega) rfl (by decide) (by decide) rfl) ?_
        simp only [fS,fS3,qA,qC]
        refine Sub.trans (Sub.fold1 39 1 41 rfl (by simp [-gD]<;>omega) rfl (by decide) (by decide) rfl) ?_
        simp only [fS,fS3,qA,qC]
        refine Sub.trans (Sub.fold1 39 2 42 rfl (by simp [-gD]<;>omega) rfl (by decide) (by decide) rfl) ?_
        simp only [fS,fS3,qA,qC]
        refine Sub.shape [] (fun n=>if n=37 then 33 else if n=43 then 39 else n) (by omega) ?_ ?_ ?_ ?_<;>simp [qM]
       ·intro i hi
        simp only [go_sem,seval]
        refine qU (fun hc=>?_) (fun hc=>?_)
        ·simp only [decide_eq_true_eq] at hc
         have hil:i<u.ths.length:=by omega
         have hiv:i<v.ths.length:=by have:=hI.len; omega
         obtain ⟨e1,e2,-⟩:=hI.th i hil
         unfold thd at e1 e2
         have gtu:=qO .own u.ths i hil
         have gtv:=qO .own v.ths i hiv
         rw [e1,e2] at gtv
         simp only [go_sem,seval,gtu,gtv,hil,hiv,wA (i:=i) (by omega)]
         repeat refine K ?_
         refine qW (i+1) ?_ ?_ ?_
         ·refine Sub.trans (Sub.fold1 37 0 44 rfl (by simp [-gD]<;>omega) rfl (by decide) (by decide) rfl) ?_
          simp only [fS,fS3,qA,qC]
          refine Sub.trans (Sub.fold1 43 0 45 rfl (by simp [-gD]<;>omega) rfl (by decide) (by decide) rfl) ?_
          simp only [fS,fS3,qA,qC]
          refine Sub.shape [] id (by omega) ?_ ?_ ?_ ?_<;>simp [qM]
         ·exact hil
         ·omega
        ·simp only [go_sem,seval]
         repeat refine K ?_
         refine fz ?_; simp [yL,wM,wL,wR,-wBe]
end Go.Sep
