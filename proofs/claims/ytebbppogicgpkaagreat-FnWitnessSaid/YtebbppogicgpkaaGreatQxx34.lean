/- Contracts of functions. -/
import Derived.Test.YtebbppogicgpkaaGreatQxx39
namespace Go.Sep
set_option maxHeartbeats 16000000
open Go.Proofs
set_option linter.unusedSimpArgs false
set_option linter.unusedVariables false
set_option maxRecDepth 100000
def m419:MFn:=⟨26,[.t 4],kr [xF 4] (.seq (kr [xv 6 0,xe 7 6,xv 8 1,xe 9 8,bT 10 .neq 7 9] (kF 10 [xF 4])) (.seq (kr [xv 11 0,xe 12 11,xI 13 0] (.blk 0 (.loop (kr [bT 14 .lss 13 12] (.seq (kX 14 0) (.seq (.blk 1 (kr [xv 15 13,xv 5 15] (.seq (.dreg (.take 0 (xv 16 0) (.take 1 (xv 17 5) (.take 2 (xD 18 2 16 17) (.take 3 (xm 19 2 18) (.take 4 (xv 20 1) (.only 5 [] (xv 21 5) (.only 6 [4] (xD 22 2 20 21) (.only 7 [6,4] (xm 23 2 22) (.only 8 [3,7,2,6,0,1,4] (xo 24 (.eqS true [true,true] (.t 19) (.t 23))) (.done))))))))))) (kF 24 [xF 4])))) (xr [bI 25 .add 13 1,xv 13 25]))))))) (kR [xT 4])))⟩
theorem note_take2 {a b:List Note} (i:Nat) (h1:i<a.length) (h2:i<b.length) (hp:a.take i=b.take i) (he:a.getD i default=b.getD i default):a.take (i+1)=b.take (i+1):=by
 rw [take_snoc a default i h1,take_snoc b default i h2,hp,he]
theorem note_dec (x y:Note):(decide (x.who=y.who)&&decide (x.v=y.v))=decide (x=y):=by
 obtain ⟨x1,x2⟩:=x
 obtain ⟨y1,y2⟩:=y
 by_cases h1:x1=y1<;>by_cases h2:x2=y2<;>simp [h1,h2]
theorem take_all {α:Type} {a b:List α} {i:Nat} (hp:a.take i=b.take i) (h1:a.length≤i∨b.length≤i) (hl:a.length=b.length):a=b:=by
 rw [←List.take_of_length_le (show a.length≤i by omega),hp,List.take_of_length_le (by omega)]
theorem notesEqual_ok (a b:List Note) (h1:a.length<2^40):CallOk Tryz.prog num 419 [.sl .bw 2 (notes a),.sl .bw 2 (notes b)] [] (.bool (decide (a=b))):=by
 refine EN m419 Tryz.func80 ?_
 unfold m419
 by_cases hl:a.length=b.length
 ·have d0:decide ((a.length:Int)=(b.length:Int))=true:=by simp [hl]
  simp only [go_sem,seval,d0]
  repeat refine K ?_
  refine loop_intro (ι:=Nat) (fun i=>.mk [(0,.sl .bw 2 (notes a)),(1,.sl .bw 2 (notes b)),(12,.int .i64 a.length),(13,.int .i64 i)] [] 10) (fun i=>i≤a.length∧a.take i=b.take i) (fun i=>a.length-i) 0 (by simp) ?_ ?_
  ·refine Sub.shape [] id (by omega) ?_ ?_ ?_ ?_<;>simp [ints_rep]
  ·rintro i ⟨hi,hp⟩
   simp only [go_sem,seval]
   refine branch_intro (fun hc=>?_) (fun hc=>?_)
   ·simp only [decide_eq_true_eq] at hc
    have g1:i<a.length:=by omega
    have g2:i<b.length:=by omega
    simp only [go_sem,seval,notes_getD a i g1,notes_getD b i g2,note_dec]
    repeat refine K ?_
    by_cases he:a.getD i default=b.getD i default
    ·have d3:(!decide (a.getD i default=b.getD i default))=false:=by rw [decide_eq_true he]; rfl
     try simp only [go_sem,seval,d3,wrap_succ (i:=i) (by omega)]
     repeat refine K ?_
     refine back_intro (i+1) (Sub.shape [] id (by omega) ?_ ?_ ?_ ?_) ⟨g1,note_take2 i g1 g2 hp he⟩ (by omega)<;>simp [ints_rep]
    ·have hne :¬a=b:=fun e=>he (by rw [e])
     have d3:(!decide (a.getD i default=b.getD i default))=true:=by rw [decide_eq_false he]; rfl
     try simp only [go_sem,seval,d3]
     repeat refine K ?_
     refine fz ?_; simp [FinS,nilL,nilV,oneOr,-List.drop_one]
     all_goals simp [hne]
   ·simp only [decide_eq_false_iff_not] at hc
    have hab:a=b:=take_all hp (.inl (by omega)) hl
    simp only [go_sem,seval]
    repeat refine K ?_
    refine fz ?_; simp [FinS,nilL,nilV,oneOr,-List.drop_one]
    all_goals simp [hab]
 ·have d0:decide ((a.length:Int)=(b.length:Int))=false:=by simp; omega
  have hne :¬a=b:=fun e=>hl (by rw [e])
  simp only [go_sem,seval,d0]
  repeat refine K ?_
  refine fz ?_; simp [FinS,nilL,nilV,oneOr,-List.drop_one]
  all_goals simp [hne]
def m23:MFn:=⟨26,[.t 4],kr [xF 4] (.seq (kr [xv 6 0,xe 7 6,xv 8 1,xe 9 8,bT 10 .neq 7 9] (kF 10 [xF 4])) (.seq (kr [xI 5 0] (.blk 0 (.loop (.seq (kr [xv 11 5,xv 12 0,xe 13 12,bT 14 .lss 11 13] (kX 14 0)) (.seq (.blk 1 (.seq (.dreg (.take 0 (xv 17 0) (.take 1 (xv 18 5) (.take 2 (xD 19 1 17 18) (.take 3 (xl 20 19) (.take 4 (xv 21 1) (.only 5 [] (xv 22 5) (.only 6 [4] (xD 23 1 21 22) (.only 7 [6,4] (xl 24 23) (.only 8 [3,7,2,6,0,1,4] (bT 25 .neq 20 24) (.done))))))))))) (kF 25 [xF 4]))) (xr [xv 15 5,bI 16 .add 15 1,xv 5 16])))))) (kR [xT 4])))⟩
theorem sameInts_ok (xs ys:List Int) (hx:xs.length≤2^47):CallOk Tryz.prog num 23 [.sl .bw 1 (ints xs),.sl .bw 1 (ints ys)] [] (.bool (decide (xs=ys))):=by
 refine EN m23 Tryz.func18 ?_
 unfold m23
 simp only [go_sem,seval]
 repeat refine K ?_
 refine branch_intro (fun hc=>?_) (fun hc=>?_)
 ·have hne:xs≠ys:=fun he=>by subst he; simp at hc
  simp only [go_sem,seval]
  repeat refine K ?_
  refine fz ?_; simp [FinS,nilL,nilV,oneOr,-List.drop_one]
  exact hne
 ·have hl:xs.length=ys.length:=by simp at hc; omega
  simp only [go_sem,seval]
  repeat refine K ?_
  refine loop_intro (ι:=Nat) (fun i=>.mk [(0,.sl .bw 1 (ints xs)),(1,.sl .bw 1 (ints ys)),(5,.int .i64 i)] [] 10) (fun i=>i≤xs.length∧xs.take i=ys.take i) (fun i=>xs.length-i) 0 (by simp) ?_ ?_
  ·refine Sub.shape [] id (by omega) ?_ ?_ ?_ ?_<;>simp [ints_rep]
  ·rintro i ⟨hi,hp⟩
   simp only [go_sem,seval]
   repeat refine K ?_
   refine branch_intro (fun hc=>?_) (fun hc=>?_)
   ·simp only [decide_eq_true_eq] at hc
    have hil:i<xs.length:=by omega
    have hjl:i<ys.length:=by omega
    simp only [go_sem,seval,ints_getD xs i hil,ints_getD ys i hjl]
    repeat refine K ?_
    by_cases he:xs.getD i 0=ys.getD i 0
    ·simp only [go_sem,seval,he,wrap_succ (i:=i) (by omega)]
     repeat refine K ?_
     refine back_intro (i+1) (Sub.shape [] id (by omega) ?_ ?_ ?_ ?_) ?_ ?_
     any_goals (first | omega | (simp [ints_rep]; done))
     refine ⟨hil,?_⟩
     rw [List.take_succ_eq_append_getElem hil,List.take_succ_eq_append_getElem hjl,hp]
     have he':xs[i]=ys[i]:=by simpa [List.getD_eq_getElem?_getD,hil,hjl] using he
     rw [he']
    ·simp only [go_sem,seval,he]
     repeat refine K ?_
     refine fz ?_; simp [FinS,nilL,nilV,oneOr,-List.drop_one]
     intro h
     subst h
     exact he rfl
   ·simp only [decide_eq_false_iff_not] at hc
    have he:xs=ys:=by
     have h1:i=xs.length:=by omega
     rw [h1,List.take_length,hl,List.take_length] at hp
     exact hp
    simp only [go_sem,seval]
    repeat refine K ?_
    refine fz ?_; simp [FinS,nilL,nilV,oneOr,-List.drop_one]
    exact he
def m160:MFn:=⟨26,[.t 4],kr [xF 4] (.seq (kr [xv 6 0,xe 7 6,xv 8 1,xe 9 8,bT 10 .neq 7 9] (kF 10 [xF 4])) (.seq (kr [xI 5 0] (.blk 0 (.loop (.seq (kr [xv 11 5,xv 12 0,xe 13 12,bT 14 .lss 11 13] (kX 14 0)) (.seq (.blk 1 (.seq (.dreg (.take 0 (xv 17 0) (.take 1 (xv 18 5) (.take 2 (xD 19 2 17 18) (.take 3 (xm 20 2 19) (.take 4 (xv 21 1) (.only 5 [] (xv 22 5) (.only 6 [4] (xD 23 2 21 22) (.only 7 [6,4] (xm 24 2 23) (.only 8 [3,7,2,6,0,1,4] (xo 25 (.eqS true [true,true] (.t 20) (.t 24))) (.done))))))))))) (kF 25 [xF 4]))) (xr [xv 15 5,bI 16 .add 15 1,xv 5 16])))))) (kR [xT 4])))⟩
theorem note_take {a b:List Note} (i:Nat) (ha:i<a.length) (hb:i<b.length) (h:a.take i=b.take i) (he:a.getD i default=b.getD i default):a.take (i+1)=b.take (i+1):=by
 rw [take_snoc a default i ha,take_snoc b default i hb,h,he]
theorem sameNotes_ok (a b:List Note) (ha:a.length<2^47):CallOk Tryz.prog num 160 [.sl .bw 2 (notes a),.sl .bw 2 (notes b)] [] (.bool (decide (a=b))):=by
 refine EN m160 Tryz.func28 ?_
 unfold m160
 by_cases hl:a.length=b.length
 ·have d0:(!decide ((a.length:Int)=(b.length:Int)))=false:=by simp [hl]
  simp only [go_sem,seval,d0]
  repeat refine K ?_
  refine loop_intro (ι:=Nat) (fun i=>.mk [(0,.sl .bw 2 (notes a)),(1,.sl .bw 2 (notes b)),(5,.int .i64 i)] [] 10) (fun i=>i≤a.length∧a.take i=b.take i) (fun i=>a.length-i) 0 (by simp) ?_ ?_
  ·refine Sub.shape [] id (by omega) ?_ ?_ ?_ ?_<;>simp [ints_rep]
  ·rintro i ⟨hi,hp⟩
   simp only [go_sem,seval]
   refine branch_intro (fun hc=>?_) (fun hc=>?_)
   ·simp only [decide_eq_true_eq] at hc
    have hil:i<a.length:=by omega
    have g1:=notes_getD a i hil
    have g2:=notes_getD b i (by omega)
    have ht:=note_take i hil (by omega) hp
    have hdec:(decide ((a.getD i default).who=(b.getD i default).who)&&decide ((a.getD i default).v=(b.getD i default).v))=decide (a.getD i default=b.getD i default):=by
     generalize a.getD i default=x
     generalize b.getD i default=y
     obtain ⟨x1,x2⟩:=x
     obtain ⟨y1,y2⟩:=y
     by_cases h1:x1=y1<;>by_cases h2:x2=y2<;>simp [h1,h2]
    simp only [go_sem,seval,g1,g2,hdec,wrap_succ (i:=i) (by omega)]
    repeat refine K ?_
    by_cases he:a.getD i default=b.getD i default
    ·have h2:=ht he
     have d3:(!decide (a.getD i default=b.getD i default))=false:=by rw [decide_eq_true he]; rfl
     try simp only [go_sem,seval,d3,wrap_succ (i:=i) (by omega)]
     repeat refine K ?_
     refine back_intro (i+1) (Sub.shape [] id (by omega) ?_ ?_ ?_ ?_) ⟨hil,h2⟩ (by omega)<;>simp [ints_rep]
    ·have hne :¬a=b:=fun e=>he (by rw [e])
     have d3:(!decide (a.getD i default=b.getD i default))=true:=by rw [decide_eq_false he]; rfl
     try simp only [go_sem,seval,d3]
     repeat refine K ?_
     refine fz ?_; simp [FinS,nilL,nilV,oneOr,-List.drop_one]
     all_goals simp [hne]
   ·simp only [decide_eq_false_iff_not] at hc
    have hab:a=b:=by
     have h1:a.take i=a:=List.take_of_length_le (by omega)
     have h2:b.take i=b:=List.take_of_length_le (by omega)
     rw [←h1,hp,h2]
    simp only [go_sem,seval]
    repeat refine K ?_
    refine fz ?_; simp [FinS,nilL,nilV,oneOr,-List.drop_one]
    all_goals simp [hab]
 ·have d0:(!decide ((a.length:Int)=(b.length:Int)))=true:=by simp; omega
  have hne :¬a=b:=fun e=>hl (by rw [e])
  simp only [go_sem,seval,d0]
  repeat refine K ?_
  refine fz ?_; simp [FinS,nilL,nilV,oneOr,-List.drop_one]
  all_goals simp [hne]
end Go.Sep
