/- Contracts of functions. -/
import Derived.Test.YtebbppogicgpkaaOxx14
namespace Go.Sep
set_option maxHeartbeats 16000000
open Go.Proofs
set_option linter.unusedSimpArgs false
set_option linter.unusedVariables false
set_option maxRecDepth 100000
open Nat renaming reduceAdd → qA, reduceMul → qB, reduceEqDiff → qC, reduceBEq → qD
open Int renaming reduceToNat → qE, reduceEq → qF, reduceLT → qG, reduceLE → qH
open List renaming getD_eq_getElem?_getD → gD
def m358:MFn:=⟨56,[.cell 2 4 true],kr [xb 1 0,xo 2 (.alloc [.nil,.nil,.nil,.nil])] (.seq (.dreg (.take 0 (xa 8 2 1) (.take 1 (xm 9 1 8) (.take 3 (xa 11 3 1) (.take 4 (xl 12 11) (.both 2 [1,0] (xc1 10 366 (.t 9)) (.both 5 [2,4,1,3,0] (xc1 13 69 (.t 12)) (.take 6 (xo 14 (.build [.nil,.nil,.nil,.nil] [(2,1,.t 10),(3,1,.t 13)])) (.only 7 [] (xo 3 (.alloc [.nil,.nil,.nil,.nil])) (.only 8 [0,1,3,4,6] (xS 4 3 14) (.done)))) 7 [] (xo 3 (.alloc [.nil,.nil,.nil,.nil])) (.only 5 [2,4,1,3,0] (xc1 13 69 (.t 12)) (.only 6 [2,5,1,4,0,3] (xo 14 (.build [.nil,.nil,.nil,.nil] [(2,1,.t 10),(3,1,.t 13)])) (.only 8 [0,1,3,4] (xS 4 3 14) (.done))))) 7 [] (xo 3 (.alloc [.nil,.nil,.nil,.nil])) (.only 2 [1,0] (xc1 10 366 (.t 9)) (.only 5 [2,4,1,3,0] (xc1 13 69 (.t 12)) (.only 6 [2,5,1,4,0,3] (xo 14 (.build [.nil,.nil,.nil,.nil] [(2,1,.t 10),(3,1,.t 13)])) (.only 8 [0,1,3,4] (xS 4 3 14) (.done))))))))))) (.seq (kr [xa 15 0 1,xl 16 15,xe 17 16,xI 18 0] (.blk 0 (.loop (kr [bT 19 .lss 18 17] (.seq (kX 19 0) (.seq (.blk 1 (kr [xD 20 1 16 18,xl 21 20,xv 5 21] (.dreg (.take 0 (xa 22 0 3) (.take 1 (xl 23 22) (.take 3 (xv 25 5) (.only 2 [] (xo 24 (.mkSl [xz,xz,xz,xz,xz] 0 [])) (.only 4 [3] (xA 26 5 40 24 25) (.only 5 [4,3] (xo 27 (.mkSl [.nil] 1 [(0,.t 26)])) (.only 6 [1,4,0,3] (xA 28 1 24 23 27) (.only 7 [0,1,3] (xa 29 0 3) (.only 8 [0,1,3] (xS 1 29 28) (.done))))))))))))) (xr [bI 30 .add 18 1,xv 18 30]))))))) (.seq (kr [xa 31 1 1,xl 32 31,xe 33 32,xI 34 0] (.blk 2 (.loop (kr [bT 35 .lss 34 33] (.seq (kX 35 2) (.seq (.blk 3 (kr [xD 36 4 32 34,xm 37 4 36,xo 7 (.alloc [.int .i64 0,.nil,.nil,.int .i64 0]),xS 4 7 37] (.dreg (.take 0 (xa 38 1 3) (.take 1 (xl 39 38) (.take 2 (xa 40 0 7) (.take 3 (xl 41 40) (.take 4 (xa 42 1 7) (.take 5 (xl 43 42) (.take 7 (xa 45 2 7) (.take 8 (xl 46 45) (.take 10 (xa 48 3 7) (.take 11 (xl 49 48) (.only 6 [5,4] (xc1 44 36 (.t 43)) (.only 9 [6,8,5,7,4] (xc1 47 36 (.t 46)) (.only 12 [3,6,9,11,2,5,8,10,4,7] (xo 50 (.build [.int .i64 0,.nil,.nil,.int .i64 0] [(0,1,.t 41),(1,1,.t 44),(2,1,.t 47),(3,1,.t 49)])) (.only 13 [12,3,6,9,11,2,5,8,10,4,7] (xo 51 (.mkSl [.int .i64 0,.nil,.nil,.int .i64 0] 1 [(0,.t 50)])) (.only 14 [1,9,13,0,6,8,12,5,7,3,11,4,2,10] (xA 52 4 64 39 51) (.only 15 [0,1,2,3,4,5,7,8,10,11] (xa 53 1 3) (.only 16 [0,1,2,3,4,5,7,8,10,11] (xS 1 53 52) (.done))))))))))))))))))))) (xr [bI 54 .add 34 1,xv 34 54]))))))) (kR [xm 55 4 3,xS 4 2 55]))))⟩
def m366:MFn:=⟨42,[.cell 2 1 true],kr [xb 1 0,xo 2 (.alloc [.nil])] (kr [xo 9 (.build [.nil] []),xo 3 (.alloc [.nil]),xS 1 3 9] (.seq (kr [xa 10 0 1,xl 11 10,xe 12 11,xI 13 0] (.blk 0 (.loop (kr [bT 14 .lss 13 12] (.seq (kX 14 0) (.seq (.blk 1 (kr [xD 15 1 11 13,xl 16 15,xv 5 16] (kr [xo 17 (.mkSl [.int .i64 0,.nil] 0 []),xv 6 17] (.seq (kr [xv 18 5,xe 19 18,xI 20 0] (.blk 2 (.loop (kr [bT 21 .lss 20 19] (.seq (kX 21 2) (.seq (.blk 3 (kr [xD 22 2 18 20,xm 23 2 22,xo 8 (.alloc [.int .i64 0,.nil]),xS 2 8 23] (.dreg (.take 0 (xv 24 6) (.take 1 (xa 25 0 8) (.take 2 (xl 26 25) (.only 3 [] (xa 27 1 8) (.only 4 [] (xl 28 27) (.only 5 [] (xc1 29 36 (.t 28)) (.only 6 [2,1] (xo 30 (.build [.int .i64 0,.nil] [(0,1,.t 26),(1,1,.t 29)])) (.only 7 [6,2,1] (xo 31 (.mkSl [.int .i64 0,.nil] 1 [(0,.t 30)])) (.only 8 [0,7,6,2,1] (xA 32 2 32 24 31) (.only 9 [0,1,2] (xv 6 32) (.done)))))))))))))) (xr [bI 33 .add 20 1,xv 20 33]))))))) (xr [xa 34 0 3,xl 35 34,xv 36 6,xo 37 (.mkSl [.nil] 1 [(0,.t 36)]),xA 38 1 24 35 37,xa 39 0 3,xS 1 39 38]))))) (xr [bI 40 .add 13 1,xv 13 40]))))))) (kR [xm 41 1 3,xS 1 2 41])))⟩
theorem qJv (l:List wO) (i:Nat) (h:i<l.length):yX .own (l.take i)++[[AV.int .i64 (l.getD i default).v,.sl .own 1 (wT (l.getD i default).view)]]=yX .own (l.take (i+1)):=by
 rw [List.take_succ_eq_append_getElem h,←rA]
 simp [yX,iB,List.getD_eq_getElem?_getD,h]
theorem qQt (l:List (List wO)) (i:Nat) (h:i<l.length):jT .own (l.take i)++[[AV.sl .own 2 (yX .own (l.getD i []))]]=jT .own (l.take (i+1)):=by
 rw [List.take_succ_eq_append_getElem h,←qCg]
 simp [jT,List.getD_eq_getElem?_getD,h]
theorem sC (l:List (List wX)) (i:Nat) (h:i<l.length):codes .own (l.take i)++[[AV.sl .own 5 (yT (l.getD i []))]]=codes .own (l.take (i+1)):=by
 rw [List.take_succ_eq_append_getElem h,←qA6]
 simp [codes,List.getD_eq_getElem?_getD,h]
theorem qNc (l:List vK) (i:Nat) (h:i<l.length):cores .own (l.take i)++[[AV.int .i64 (l.getD i default).at_,.sl .own 1 (wT (l.getD i default).regs),.sl .own 1 (wT (l.getD i default).view),.int .i64 (l.getD i default).st]]=cores .own (l.take (i+1)):=by
 rw [List.take_succ_eq_append_getElem h,←qA4]
 simp [cores,nF,List.getD_eq_getElem?_getD,h]
theorem qGp (cs:List (List wO)) (h:qNw cs):wD Try.prog num 366 [.agg (dX .bw ⟨cs⟩)] [] (.agg (dX .own ⟨cs⟩)):=by
 obtain ⟨h1,h2,h3⟩:=h
 refine EN m366 Try.func25 ?_
 unfold m366
 simp only [go_sem,seval]
 refine wL (ι:=Nat) (fun i=>.mk [(2,.ptr 11 0 0),(3,.ptr 12 0 0),(11,.sl .bw 1 (jT .bw cs)),(12,.int .i64 cs.length),(13,.int .i64 i)] [(11,1,[[.nil]]),(12,1,[[.sl .own 1 (jT .own (cs.take i))]])] 13) (fun i=>i≤cs.length) (fun i=>cs.length-i) 0 (by simp) ?_ ?_
 ·refine Sub.shape [] id (by omega) ?_ ?_ ?_ ?_<;>simp [qP]
 ·rintro i hi
  simp only [go_sem,seval]
  refine qT (fun hc=>?_) (fun hc=>?_)
  ·simp only [decide_eq_true_eq] at hc
   have hl':i<cs.length:=by omega
   have hlt:(cs.take i).length=i:=by simp; omega
   have hr:=h2 _ (yQ cs i [] hl')
   have hv:=h3 _ (yQ cs i [] hl')
   have hnx:=qQt cs i hl'
   simp only [go_sem,seval,wB (i:=i) (by omega),cL .bw cs i hl',hlt]
   repeat refine K ?_
   generalize cs.getD i []=c at hr hv hnx
   refine wL (ι:=Nat) (fun j=>.mk [(2,.ptr 11 0 0),(3,.ptr 12 0 0),(6,.ns 13 0 j),(11,.sl .bw 1 (jT .bw cs)),(12,.int .i64 cs.length),(13,.int .i64 i),(18,.sl .bw 2 (yX .bw c)),(19,.int .i64 c.length),(20,.int .i64 j)] [(11,1,[[.nil]]),(12,1,[[.sl .own 1 (jT .own (cs.take i))]]),(13,2,yX .own (c.take j))] 14) (fun j=>j≤c.length) (fun j=>c.length-j) 0 (by simp) ?_ ?_
   ·refine Sub.shape [] id (by omega) ?_ ?_ ?_ ?_<;>simp [qP]
   ·rintro j hj
    simp only [go_sem,seval]
    refine qT (fun hc2=>?_) (fun hc2=>?_)
    ·simp only [decide_eq_true_eq] at hc2
     have hj':j<c.length:=by omega
     have hlt2:(c.take j).length=j:=by simp; omega
     have hw:=hv _ (yQ c j default hj')
     simp only [go_sem,seval,wB (i:=j) (by omega),nN .bw c j hj',hlt2]
     repeat refine K ?_
     refine DA [] (gF (c.getD j default).view (by omega)) ?_
     try simp only [go_sem,seval]
     repeat refine K ?_
     simp only [go_sem,seval,wB (i:=j) (by omega),hlt2]
     refine wC (j+1) ?_ hj' (by omega)
     refine Sub.trans (Sub.foldLast 17 1 15 rfl (by simp [-gD]<;>omega) rfl (by decide) (by decide) rfl) ?_
     simp only [fS,fS2,qA,qC,qJv c j hj']
     refine Sub.shape [] (fun n=>if n=13 then 17 else n) (by omega) ?_ ?_ ?_ ?_<;>simp [qP]
    ·simp only [decide_eq_false_iff_not] at hc2
     obtain rfl:j=c.length:=by omega
     have hie:c.take c.length=c:=List.take_length
     simp only [go_sem,seval,hie,wB (i:=i) (by omega),hlt]
     repeat refine K ?_
     refine wC (i+1) ?_ hl' (by omega)
     refine Sub.trans (Sub.foldLast 16 0 13 rfl (by simp [-gD]<;>omega) rfl (by decide) (by decide) rfl) ?_
     simp only [fS,fS2,qA,qC,hnx]
     refine Sub.trans (Sub.fold1 12 0 16 rfl (by simp [-gD]<;>omega) rfl (by decide) (by decide) rfl) ?_
     simp only [fS,fS2,qA,qC,List.length_take,Nat.min_eq_left (show i+1≤cs.length from hl')]
     refine Sub.shape [] id (by omega) ?_ ?_ ?_ ?_<;>simp [qP]
  ·simp only [decide_eq_false_iff_not] at hc
   have hie:cs.take i=cs:=List.take_of_length_le (by omega)
   simp only [go_sem,seval,hie]
   refine ⟨_,Sub.refl _,dN ?_⟩; simp [-List.drop_one]
theorem qV2 {A C:Prop} (ha:qVk C→A) (hc:C):A:=ha ⟨hc⟩
theorem qS6 {P:Program} {num:Nat→Nat} {fin:AS→Prop} {a:bK} {k:List It} {s:AS} {t:List (Nat×AV)} {h:wQ} {nx:Nat} (hs:Sub s (.mk t h nx)) (hl:qC3 P num fin a k (.mk t h nx)):qC3 P num fin a k s:=by
 unfold qC3 at hl⊢
 rw [vc] at hl⊢
 obtain ⟨J,n,⟨s1,h1,h2⟩,h3⟩:=hl
 exact ⟨J,n,⟨s1,Sub.trans hs h1,h2⟩,h3⟩
theorem qF8 (m:qK) (h:sG m):wD Try.prog num 358 [.agg (qS .bw m)] [] (.agg (qS .own m)):=by
 obtain ⟨h1,h2,h3,h4,h5,h6,h7⟩:=h
 refine EN m358 Try.func14 ?_
 unfold m358
 apply qV2
 ·intro key
  repeat' (first
   | simp only [go_sem,seval]
   | (refine DA [] (qGp m.mem.cells h6) ?_)
   | (refine DA [] (qA5 m.tr (by omega)) ?_)
   | (refine K ?_)
   | (refine And.intro ?_ ?_)
   | fail)
  all_goals refine qS6 (t:=[(1,.ptr 10 0 0),(2,.ptr 11 0 0),(3,.ptr 12 0 0),(16,.sl .bw 1 (codes .bw m.codes)),(17,.int .i64 m.codes.length),(18,.int .i64 0)]) (h:=[(10,4,[qS .bw m]),(11,4,[[.nil,.nil,.nil,.nil]]),(12,4,[[.nil,.nil,.sl .own 1 (jT .own m.mem.cells),.sl .own 2 (yW m.tr)]])]) (nx:=13) ?_ key.h
  all_goals (
   repeat' ((first | refine F2 12 2 ?_ | refine F2 12 3 ?_ | refine F2 13 2 ?_ | refine F2 13 3 ?_ | refine F2 14 2 ?_ | refine F2 14 3 ?_ | refine F2 15 2 ?_ | refine F2 15 3 ?_ | fail); simp only [fS,fS2,fS2,qA,qC])
   first
    | (refine Sub.shape [] (fun n=>if n=12 then 12 else n) (by omega) ?_ ?_ ?_ ?_<;>(simp [qP]; done))
    | (refine Sub.shape [] (fun n=>if n=12 then 13 else n) (by omega) ?_ ?_ ?_ ?_<;>(simp [qP]; done))
    | (refine Sub.shape [] (fun n=>if n=12 then 14 else n) (by omega) ?_ ?_ ?_ ?_<;>(simp [qP]; done))
    | (refine Sub.shape [] (fun n=>if n=12 then 15 else n) (by omega) ?_ ?_ ?_ ?_<;>(simp [qP]; done)))
 refine wL (ι:=Nat) (fun i=>.mk [(1,.ptr 10 0 0),(2,.ptr 11 0 0),(3,.ptr 12 0 0),(16,.sl .bw 1 (codes .bw m.codes)),(17,.int .i64 m.codes.length),(18,.int .i64 i)] [(10,4,[qS .bw m]),(11,4,[[.nil,.nil,.nil,.nil]]),(12,4,[[.sl .own 1 (codes .own (m.codes.take i)),.nil,.sl .own 1 (jT .own m.mem.cells),.sl .own 2 (yW m.tr)]])] 13) (fun i=>i≤m.codes.length) (fun i=>m.codes.length-i) 0 (by simp) ?_ ?_
 ·refine Sub.shape [] id (by omega) ?_ ?_ ?_ ?_<;>simp [qP]
 ·rintro i hi
  simp only [go_sem,seval]
  refine qT (fun hc=>?_) (fun hc=>?_)
  ·simp only [decide_eq_true_eq] at hc
   have hl':i<m.codes.length:=by omega
   have hlt:(m.codes.take i).length=i:=by simp; omega
   have hr:=h2 _ (yQ m.codes i [] hl')
   simp only [go_sem,seval,wB (i:=i) (by omega),iO .bw m.codes i hl',hlt]
   repeat refine K ?_
   refine wC (i+1) ?_ hl' (by omega)
   refine Sub.trans (Sub.foldLast 17 0 15 rfl (by simp [-gD]<;>omega) rfl (by decide) (by decide) rfl) ?_
   simp only [fS,fS2,qA,qC,sC m.codes i hl']
   refine Sub.trans (Sub.fold1 12 0 17 rfl (by simp [-gD]<;>omega) rfl (by decide) (by decide) rfl) ?_
   simp only [fS,fS2,qA,qC,List.length_take,Nat.min_eq_left (show i+1≤m.codes.length from hl')]
   refine Sub.shape [] id (by omega) ?_ ?_ ?_ ?_<;>simp [qP]
  ·simp only [decide_eq_false_iff_not] at hc
   have hie:m.codes.take i=m.codes:=List.take_of_length_le (by omega)
   simp only [go_sem,seval,hie]
   refine wL (ι:=Nat) (fun i=>.mk [(2,.ptr 11 0 0),(3,.ptr 12 0 0),(32,.sl .bw 4 (cores .bw m.cores)),(33,.int .i64 m.cores.length),(34,.int .i64 i)] [(11,4,[[.nil,.nil,.nil,.nil]]),(12,4,[[.sl .own 1 (codes .own m.codes),.sl .own 4 (cores .own (m.cores.take i)),.sl .own 1 (jT .own m.mem.cells),.sl .own 2 (yW m.tr)]])] 13) (fun i=>i≤m.cores.length) (fun i=>m.cores.length-i) 0 (by simp) ?_ ?_
   ·refine Sub.shape [] id (by omega) ?_ ?_ ?_ ?_<;>simp [qP]
   ·rintro i hi
    simp only [go_sem,seval]
    refine qT (fun hc=>?_) (fun hc=>?_)
    ·simp only [decide_eq_true_eq] at hc
     have hl':i<m.cores.length:=by omega
     have hlt:(m.cores.take i).length=i:=by simp; omega
     have hr:=h4 _ (yQ m.cores i default hl')
     have hv:=h5 _ (yQ m.cores i default hl')
     simp only [go_sem,seval,wB (i:=i) (by omega),uI .bw m.cores i hl',hlt]
     repeat refine K ?_
     refine DA [] (gF (m.cores.getD i default).regs (by omega)) ?_
     try simp only [go_sem,seval]
     refine DA [] (gF (m.cores.getD i default).view (by omega)) ?_
     try simp only [go_sem,seval]
     repeat refine K ?_
     simp only [go_sem,seval,wB (i:=i) (by omega),hlt]
     refine wC (i+1) ?_ hl' (by omega)
     refine Sub.trans (Sub.foldLast 18 1 15 rfl (by simp [-gD]<;>omega) rfl (by decide) (by decide) rfl) ?_
     simp only [fS,fS2,qA,qC]
     refine Sub.trans (Sub.foldLast 18 2 16 rfl (by simp [-gD]<;>omega) rfl (by decide) (by decide) rfl) ?_
     simp only [fS,fS2,qA,qC,qNc m.cores i hl']
     refine Sub.trans (Sub.fold1 12 1 18 rfl (by simp [-gD]<;>omega) rfl (by decide) (by decide) rfl) ?_
     simp only [fS,fS2,qA,qC,List.length_take,Nat.min_eq_left (show i+1≤m.cores.length from hl')]
     refine Sub.shape [] id (by omega) ?_ ?_ ?_ ?_<;>simp [qP]
    ·simp only [decide_eq_false_iff_not] at hc
     have hie:m.cores.take i=m.cores:=List.take_of_length_le (by omega)
     simp only [go_sem,seval,hie]
     refine ⟨_,Sub.refl _,dN ?_⟩; simp [-List.drop_one]
def qU5 (k:Int) (m:qK):FP:=[(0,some (1,codes .own m.codes),some (1,codes .own (mks qIe qMu k m.codes))),(1,some (4,cores .own m.cores),some (4,cores .own (mks qR5 qQ7 (k+iS qIe m.codes) m.cores))),(2,some (1,jT .own m.mem.cells),some (1,jT .own (mks qO0 qL0 (k+iS qIe m.codes+iS qR5 m.cores) m.mem.cells))),(3,some (2,yW m.tr),some (2,yW (mks qUx qQ6 (k+iS qIe m.codes+iS qR5 m.cores+iS qO0 m.mem.cells) m.tr)))]
attribute [go_sem] qU5
attribute [simp] qU5
end Go.Sep
