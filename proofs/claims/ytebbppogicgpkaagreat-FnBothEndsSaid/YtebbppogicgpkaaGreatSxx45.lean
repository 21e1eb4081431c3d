/- Contracts of functions. -/
import Derived.Test.YtebbppogicgpkaaGreatSxx14
import Derived.Test.YtebbppogicgpkaaGreatSxx47
namespace Go.Sep
set_option maxHeartbeats 16000000
open Go.Proofs
set_option linter.unusedSimpArgs false
set_option linter.unusedVariables false
set_option maxRecDepth 100000
open List renaming getD_eq_getElem?_getD → gD
theorem qZ5 (code:List Int) (places r a b n k wW:Int) (c:Cur) (hp:1≤places) (hr:0≤r∧r<4) (ha:0≤a∧a<4) (hb:0≤b∧b<4) (hn:0≤n∧n<wW) (hc:wW≤3):uB (qV8 code places r a b n k c).1 places wW=true:=by
 have h9:=vA code c 9 (by omega)
 have h3:=vA code c 3 (by omega)
 have hq:=vA code c places (by omega)
 have hq2:=vA code (mW code c 3).2 places (by omega)
 have w1:IntKind.i64.wrap ((wD code c 9).1-2)=(wD code c 9).1-2:=wJ (by omega) (by omega)
 have w2:IntKind.i64.wrap (2+(wD code c 3).1)=2+(wD code c 3).1:=wJ (by omega) (by omega)
 have hb4:0≤(IntKind.i64.wrap (r+1)).tmod 4∧(IntKind.i64.wrap (r+1)).tmod 4<4∧r≠(IntKind.i64.wrap (r+1)).tmod 4:=by
  obtain rfl | rfl | rfl | rfl:r=0∨r=1∨r=2∨r=3:=by omega
  all_goals decide
 unfold qV8
 rw [w1,w2]
 generalize (IntKind.i64.wrap (r+1)).tmod 4=b4 at hb4
 generalize wD code (mW code c 3).2 places=z2 at *
 generalize wD code c places=z1 at *
 generalize wD code c 9=z9 at *
 generalize wD code c 3=z3 at *
 clear w1 w2
 split
 ·simp [uB,qN]
  omega
 ·split
  ·obtain e | e | e:z3.1=0∨z3.1=1∨z3.1=2:=by omega
   all_goals
    simp [uB,qN,e]
    omega
  ·split
   ·simp [uB,qN]
    omega
   ·split
    ·simp [uB,qN]
     omega
    ·split
     ·simp [uB,qN]
      omega
     ·split
      ·simp [uB,qN]
       omega
      ·split
       ·split
        ·simp [uB,qN]
         omega
        ·simp [uB,qN]
         omega
       ·split
        ·simp [uB,qN]
         omega
        ·simp [uB,qN]
         omega
theorem wAj (code:List Int) (c:Cur) (places wW:Int) (hp:1≤places) (h1:1≤wW) (h3:wW≤3):uB (qDv code c places wW).1 places wW=true:=by
 have r1:=vA code c 4 (by omega)
 have r2:=vA code (wD code c 4).2 4 (by omega)
 have r3:=vA code (wD code (wD code c 4).2 4).2 4 (by omega)
 have hm:(if 1<wW then wW else 1)=wW:=by split<;>omega
 unfold qDv qZ4
 rw [hm]
 have r4:=vA code (wD code (wD code (wD code c 4).2 4).2 4).2 wW (by omega)
 exact qZ5 _ _ _ _ _ _ _ _ _ hp r1 r2 r3 r4 h3
theorem qFm {β:Type} {step:Cur→β×Cur} {Q:β→Prop} (h :∀c,Q (step c).1) :∀(n:Nat) (c:Cur),∀x∈(hP step n c).1,Q x
 | 0,c,x,hx=>by simp [hP] at hx
 | n+1,c,x,hx=>by
  simp only [hP] at hx
  rcases List.mem_append.1 hx with hx | hx
  ·exact qFm h n c x hx
  ·rw [List.mem_singleton.1 hx]
   exact h _
theorem qZm (code:List Int) (c:Cur) (wW:Int) (h1:1≤wW) (h3:wW≤3):vI (nK code c wW).1 wW=true:=by
 have hn:=vA code c wW (by omega)
 have hm:=vA code (wD code c wW).2 wW (by omega)
 unfold nK qPh
 generalize (wD code (wD code c wW).2 wW).1=m at hm
 generalize (wD code (wD code (wD code c wW).2 wW).2 5)=k
 generalize (wD code c wW).1=n at hn
 unfold qPi
 split
 ·simp [vI,uB,qN,kB]
  omega
 ·split
  ·simp [vI,uB,qN,kB]
   omega
  ·split
   ·simp [vI,uB,qN,kB]
    omega
   ·split
    ·simp [vI,uB,qN,kB]
     omega
    ·have h9:=vA code k.2 9 (by omega)
     generalize wD code k.2 9=z at h9
     have hl:=iF (fun d=>qDv code d (2+z.1+1) wW) z.2 (2+z.1).toNat
     have ha:=qFm (Q:=fun x=>uB x (2+z.1+1) wW=true) (fun c=>wAj code c (2+z.1+1) wW (by omega) h1 h3) (2+z.1).toNat z.2
     generalize hP (fun d=>qDv code d (2+z.1+1) wW) (2+z.1).toNat z.2=w at hl ha
     have hpk:(pK code w.2 [13,11]).1=13∨(pK code w.2 [13,11]).1=11:=by
      unfold pK
      have hb:=vA code w.2 (([13,11]:List Int).length:Int) (by simp)
      simp only [List.length_cons,List.length_nil] at hb⊢
      obtain e | e:(wD code w.2 ((0+1+1:Nat):Int)).1=0∨(wD code w.2 ((0+1+1:Nat):Int)).1=1:=by omega
      ·rw [e]; exact .inl rfl
      ·rw [e]; exact .inr rfl
     generalize (pK code w.2 [13,11]).1=o at hpk
     have hlen:((w.1++[(⟨o,0,0,0,0⟩:Ins)]).length:Int)=2+z.1+1:=by
      rw [List.length_append,hl]
      simp
      omega
     simp only [vI,hlen]
     simp only [Bool.and_eq_true,Bool.or_eq_true,decide_eq_true_eq,qN,List.all_append,List.all_eq_true,List.mem_singleton,forall_eq]
     have hlo:kB (w.1++[(⟨o,0,0,0,0⟩:Ins)])=o:=by
      unfold kB
      simp [List.getD_eq_getElem?_getD]
     refine ⟨⟨⟨⟨by omega,h3⟩,by omega,by omega⟩,ha,?_⟩,by rw [hlo]; exact hpk⟩
     rcases hpk with rfl | rfl
     ·simp [uB,qN]
      omega
     ·simp [uB,qN]
      omega
theorem qZj (code:List Int) (n:Nat) (c:Cur):zB (lK code n c).1=true:=by
 unfold zB lK
 rw [List.all_eq_true]
 refine qFm (Q:=fun x=>qP x 1 4=true) (fun c=>?_) n c
 have h:=vA code c 4 (by omega)
 simp only
 rw [wJ (by omega) (by omega),qN]
 omega
theorem qLo (code:List Int) (c:Cur):vF (bS code c).1=true:=by
 have hs:=qAy code c
 unfold bS at hs⊢
 have hn:=vA code c 3 (by omega)
 generalize wD code c 3=r at hn hs
 obtain ⟨r,d⟩:=r
 simp only at hn hs⊢
 unfold qHg at hs⊢
 have h1:=sT code (1+r).toNat d
 have h2:=qZj code (1+r).toNat d
 generalize lK code (1+r).toNat d=p at h1 h2 hs
 obtain ⟨cs,e⟩:=p
 simp only at h1 h2 hs⊢
 have hl:(cs.length:Int)=1+r:=by omega
 unfold vF
 simp only [Bool.and_eq_true,decide_eq_true_eq,qN,List.all_eq_true]
 refine ⟨⟨⟨?_,by omega⟩,h2⟩,by omega⟩
 rw [hl]
 exact sK (Q:=fun (b:List Ins)=>vI b (1+r)=true) (fun c=>qZm code c (1+r) (by omega) (by omega)) 4 0 e [] (by simp)
def m439:MFn:=⟨18,[.cell 2 2 true,.t 3],kr [xo 2 (.alloc [.nil,.nil]),xo 3 (.mv (.c (.nil)))] (kr [xv 6 0,xo 7 (.call 37 [true] [.t 6]),xv 4 7] (kr [xv 8 4,xo 9 (.call 55 [true] [.t 8]),xo 5 (.alloc [.nil,.nil]),xS 2 5 9] (.seq (.dreg (.take 0 (xm 10 2 5) (.take 1 (xv 11 4) (.take 2 (xa 12 1 5) (.take 3 (xl 13 12) (.take 4 (xe 14 13) (.only 5 [] (xv 15 0) (.only 6 [] (xc3 16 213 (.t 15) (xi 60) (xi 160)) (.only 7 [1,4,3,2] (xo 17 (.call 463 [true,false,false] [.t 11,.t 14,.t 16])) (.only 8 [0,7,1,4,3,2] (xS 2 2 10) (.only 9 [0,1,2,3,4] (xv 3 17) (.done)))))))))))) (.ret))))⟩
def lY (code:List Int):wM×List vD:=((bS code (oW code)).1,(iH code (bS code (oW code)).2 (bS code (oW code)).1.bods.length (pR code.length 60 160)).1)
theorem qIu (code:List Int):vF (lY code).1=true∧(lY code).2.length≤960∧∀x∈(lY code).2,tT x:=by
 have hm:=qDo code.length (show (60:Int)≤160 by omega)
 refine ⟨qLo code (oW code),?_,qDr⟩
 unfold lY
 simp only
 obtain ⟨m,hm2⟩:=Int.eq_ofNat_of_zero_le (show 0≤pR code.length 60 160 by omega)
 rw [hm2]
 have:=qDs code (bS code (oW code)).2 (bS code (oW code)).1.bods.length (most:=m)
 omega
theorem qBz (code:List Int) (hb:code.length<2^62):qW Tryz.prog num 439 [.sl .fz 1 (bys code)] [] (.tup [.agg (jF .own (lY code).1),.sl .own 2 (uZ (lY code).2)]):=by
 have hm:=qDo code.length (show (60:Int)≤160 by omega)
 refine EN m439 Tryz.func15 ?_
 unfold m439 lY
 simp only [go_sem,seval]
 repeat refine K ?_
 refine hX (qPb (n1:=12) [(10,11)] (qR1 code hb) ?_ ?_ ?_ ?_ ?_ ?_ ?_) ?_
 any_goals (first | omega | (simp [qU,qV]; done) | (simp [qU,qV, *]; done))
 try simp only [go_sem,seval]
 repeat refine K ?_
 refine CA [(0,11)] (nC code (oW code) hb) ?_
 try simp only [go_sem,seval]
 repeat refine K ?_
 generalize bS code (oW code)=r
 obtain ⟨p,d⟩:=r
 simp only
 try simp only [go_sem,seval]
 repeat refine K ?_
 refine DA [] (qFo code 60 160 hb (by omega)) ?_
 try simp only [go_sem,seval]
 repeat refine K ?_
 generalize pR code.length 60 160=w at hm
 refine DA [(0,11)] (nB code d p.bods.length w hb (by omega)) ?_
 try simp only [go_sem,seval]
 repeat refine K ?_
 try simp only [go_sem,seval]
 repeat refine K ?_
 apply wS (by simp)
 ·exact Sub.refl _
 ·simp [-List.drop_one,-gD,qK]<;>(first | rfl | exact ⟨rfl,rfl⟩ | exact ⟨rfl,rfl,rfl⟩ | skip)
end Go.Sep
