/- Contracts of functions. -/
import Derived.Test.YtebbppogicgpkaaGreatJxx29
open List renaming drop_one → qYj
namespace Go.Sep
set_option maxHeartbeats 16000000
open Go.Proofs
set_option linter.unusedSimpArgs false
set_option linter.unusedVariables false
set_option maxRecDepth 100000
def m391:MFn:=⟨23,[.cell 2 4 true,.t 3],kr [xb 1 0,xo 2 (.alloc [.nil,.nil,.nil,.nil]),xF 3] (kr [xm 9 2 1,xc1 10 162 (.t 9),xv 8 10,xX 11 8 0,xX 12 8 1,xv 4 11,xv 5 12] (.seq (kr [xv 13 5,xN 14 13] (kF 14 [xo 15 (.build [.nil,.nil,.nil,.nil] []),xS 4 2 15,xF 3])) (kr [xv 17 4,xc1 18 415 (.t 17),xv 16 18,xX 19 16 0,xX 20 16 1,xo 6 (.alloc [.nil,.nil,.nil,.nil]),xS 4 6 19,xv 7 20] (kR [xm 21 4 6,xv 22 7,xS 4 2 21,xv 3 22]))))⟩
def m392:MFn:=⟨18,[.cell 2 4 true,.t 3],kr [xb 1 0,xo 2 (.alloc [.nil,.nil,.nil,.nil]),xF 3] (kr [xm 7 2 1,xc1 8 163 (.t 7),xv 6 8,xX 9 6 0,xX 10 6 1,xv 4 9,xv 5 10] (.seq (kr [xv 11 5,xN 12 11] (kF 12 [xo 13 (.build [.nil,.nil,.nil,.nil] []),xS 4 2 13,xF 3])) (kR [xv 14 4,xc1 15 416 (.t 14),xX 16 15 0,xX 17 15 1,xS 4 2 16,xv 3 17])))⟩
def launch (p:wU):wA×Bool:=if (gF p).2 then dS (gF p).1 else (sB,false)
theorem qIf (p:wU) (hp:vY p):qU Tryz.prog num 391 [.agg (yT .bw p)] [] (.tup [.agg (qY .own (launch p).1),.bool (launch p).2]):=by
 refine EN m391 Tryz.func68 ?_
 unfold m391
 obtain ⟨c1,c2⟩:=qAd p
 simp only [go_sem,seval]
 refine CA [] (qFw p hp) ?_
 try simp only [go_sem,seval]
 unfold launch
 generalize gF p=w at *
 cases h2:w.2
 ·try simp only [go_sem,seval,h2]
  refine ⟨_,Sub.refl _,yO (by simp) ?_⟩; simp [-qYj]
  simp [sB]
 ·try simp only [go_sem,seval,h2]
  refine CA [] (qBi w.1 (by omega) (fun c hc=>by have:=c2 c hc; omega)) ?_
  try simp only [go_sem,seval]
  refine ⟨_,Sub.refl _,yO (by simp) ?_⟩; simp [-qYj]
theorem qIs (p:wU) (hp:vY p):qU Tryz.prog num 392 [.agg (yT .bw p)] [] (.tup [.agg (qY .own (launch p).1),.bool (launch p).2]):=by
 refine EN m392 Tryz.func51 ?_
 unfold m392
 obtain ⟨c1,c2⟩:=qAd p
 simp only [go_sem,seval]
 refine CA [] (qH9 p hp) ?_
 try simp only [go_sem,seval]
 unfold launch
 generalize gF p=w at *
 cases h2:w.2
 ·try simp only [go_sem,seval,h2]
  refine ⟨_,Sub.refl _,yO (by simp) ?_⟩; simp [-qYj]
  simp [sB]
 ·try simp only [go_sem,seval,h2]
  refine CA [] (qC7 w.1 (by omega) (fun c hc=>by have:=c2 c hc; omega)) ?_
  try simp only [go_sem,seval]
  refine ⟨_,Sub.refl _,yO (by simp) ?_⟩; simp [-qYj]
end Go.Sep
