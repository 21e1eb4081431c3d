/- Contracts of functions. -/
import Derived.Test.YtbfklilhgekabaaNxx16
open List renaming drop_one → qYt, getD_eq_getElem?_getD → qXb, getElem?_eq_getElem → qYs, length_append → qXp, length_cons → qX4, length_singleton → qZb, map_replicate → qZc, map_set → qZ9, replicate → qX3, set_getElem_self → qZa, take → qZd, take_of_length_le → qXi
namespace Go.Sep
set_option maxHeartbeats 16000000
open Go.Proofs
set_option linter.unusedSimpArgs false
set_option linter.unusedVariables false
set_option maxRecDepth 100000
open Nat renaming reduceAdd → qA, reduceMul → qB, reduceEqDiff → qC, reduceBEq → qD
open Int renaming reduceToNat → qE, reduceEq → qF, reduceLT → qG, reduceLE → qH
open List renaming getD_eq_getElem?_getD → gD
def m289:MFn:=⟨115,[.t 2],kr [xo 2 (.mv (.c (.nil)))] (kr [xo 15 (.mkSl [.nil] 0 []),xv 3 15] (.seq (kr [xv 16 0,xc2 17 82 (.t 16) (xi 3),xN 18 17] (kF 18 [xv 19 3,xv 2 19])) (kr [xv 20 0,xe 21 20,xo 22 (.mkS [.bool false] 1 (.t 21) (.t 21)),xv 4 22] (.seq (kr [xI 5 0] (.blk 0 (.loop (.seq (kr [xv 23 5,xv 24 0,xe 25 24,bT 26 .lss 23 25] (kX 26 0)) (.seq (.blk 1 (xr [xv 29 3,xo 30 (.mkS [.bool false,.int .i64 0] 16 (xi 4) (xi 4)),xo 31 (.mkSl [.nil] 1 [(0,.t 30)]),xA 32 1 24 29 31,xv 3 32])) (xr [xv 27 5,bI 28 .add 27 1,xv 5 28])))))) (.seq (kr [xI 6 0] (.blk 2 (.loop (.seq (kr [xv 33 6,bI 34 .lss 33 4] (kX 34 2)) (.seq (.blk 3 (xr [xv 37 3,xo 38 (.iad 1 (.t 37) (xi 0)),xl 39 38,xv 40 6,xo 41 (.build [.bool false,.int .i64 0] [(0,1,.c (.bool true))]),xD 42 2 39 40,xS 2 42 41])) (xr [xv 35 6,bI 36 .add 35 1,xv 6 36])))))) (kr [xv 43 4,xo 44 (.iad 1 (.t 43) (xi 0)),⟨none,.store 1 (.t 44) (.c (.bool true)),none⟩] (kr [xo 45 (.mkSl [xz] 1 [(0,xi 0)]),xv 7 45] (.seq (.blk 4 (.loop (.seq (kr [xv 46 7,xe 47 46,bI 48 .gtr 47 0] (kX 48 4)) (.blk 5 (kr [xv 49 7,xo 50 (.iad 1 (.t 49) (xi 0)),xl 51 50,xv 8 51] (kr [xo 52 (.mkSl [xz] 0 []),xv 53 7,xo 54 (.cut 1 (.t 53) (some (xi 1)) none),xA 55 1 8 52 54,xv 7 55] (.seq (.dreg (.take 0 (xv 56 0) (.take 1 (xv 57 8) (.take 2 (xD 58 5 56 57) (.take 3 (xm 59 5 58) (.take 4 (xv 60 3) (.only 5 [] (xv 61 8) (.only 6 [4] (xD 62 1 60 61) (.only 7 [6,4] (xl 63 62) (.only 8 [3,7,2,6,0,1,4] (xc2 64 325 (.t 59) (.t 63)) (.only 9 [0,1,2,3,4] (xv 9 64) (.done)))))))))))) (kr [xv 65 0,xv 66 8,xc2 67 326 (.t 65) (.t 66),xv 10 67] (kr [xI 11 0] (.blk 6 (.loop (.seq (kr [xv 68 11,xv 69 10,xe 70 69,bT 71 .lss 68 70] (kX 71 6)) (.seq (.blk 7 (kr [xv 74 10,xv 75 11,xD 76 1 74 75,xl 77 76,xv 12 77] (.seq (kr [xv 78 4,xv 79 12,xD 80 1 78 79,xl 81 80,xN 82 81] (.cond 82 (kr [xv 83 4,xv 84 12,xD 85 1 83 84,⟨none,.store 1 (.t 85) (.c (.bool true)),none⟩] (kr [xv 86 3,xv 87 12,xo 88 (.mkSl [.bool false,.int .i64 0] 0 []),xv 89 9,xA 90 2 16 88 89,xD 91 1 86 87,xS 1 91 90] (kr [xv 92 7,xv 93 12,xo 94 (.mkSl [xz] 1 [(0,.t 93)]),xA 95 1 8 92 94,xv 7 95] (.exit 7)))) (.skip))) (kr [xv 97 3,xv 98 12,xD 99 1 97 98,xl 100 99,xv 101 9,xc2 102 327 (.t 100) (.t 101),xv 96 102,xX 103 96 0,xX 104 96 1,xv 13 103,xv 14 104] (kr [xv 105 14] (.cond 105 (kr [xv 106 3,xv 107 12,xv 108 13,xD 109 1 106 107,xS 1 109 108] (xr [xv 110 7,xv 111 12,xo 112 (.mkSl [xz] 1 [(0,.t 111)]),xA 113 1 8 110 112,xv 7 113])) (.skip))))))) (xr [xv 72 11,bI 73 .add 72 1,xv 11 73])))))))))))))) (kR [xv 114 3,xv 2 114])))))))))⟩
def m326:MFn:=⟨57,[.t 4],kr [xo 4 (.mv (.c (.nil)))] (.seq (kr [xv 6 0,xc2 7 82 (.t 6) (xi 3),xN 8 7,xv 9 8,zv 10 1 9,zv 11 0 9,ze 12 11 9,zI 13 .sub 12 1 9,xg 14 (.call 64 [false,false,false] [.t 10,xi 0,.t 13]) 9 false,zN 15 14 9,xQ 16 9 15] (kF 16 [xo 17 (.mkSl [xz] 0 []),xv 4 17])) (kr [xv 18 0,xv 19 1,xD 20 5 18 19,xm 21 5 20,xo 5 (.alloc [xz,xz,xz,xz,xz]),xS 5 5 21] (.seq (kr [xa 22 0 5,xl 23 22] (.blk 0 (kr [bI 25 .eql 23 13,xv 24 25] (.cond 24 (kR [xo 26 (.mkSl [xz] 0 []),xv 4 26]) (kr [bI 28 .eql 23 11,xv 27 28] (.cond 27 (kR [xa 29 4 5,xl 30 29,xo 31 (.mkSl [xz] 1 [(0,.t 30)]),xv 4 31]) (kr [bI 33 .eql 23 12,xv 32 33] (.cond 32 (.seq (kr [xa 34 4 5,xl 35 34,xv 36 1,bI 37 .add 36 1,bT 38 .lss 35 37] (kF 38 [xa 39 4 5,xl 40 39,xv 41 1,bI 42 .add 41 1,xo 43 (.mkSl [xz] 2 [(0,.t 40),(1,.t 42)]),xv 4 43])) (kr [xa 44 4 5,xl 45 44,xv 46 1,bI 47 .add 46 1,bT 48 .gtr 45 47] (kF 48 [xv 49 1,bI 50 .add 49 1,xa 51 4 5,xl 52 51,xo 53 (.mkSl [xz] 2 [(0,.t 50),(1,.t 52)]),xv 4 53]))) (.skip))))))))) (kR [xv 54 1,bI 55 .add 54 1,xo 56 (.mkSl [xz] 1 [(0,.t 55)]),xv 4 56]))))⟩
theorem qFi (l:List Ins) (a:Nat) (hb:wV l 3=true) (ha:a<l.length):wJ Try.prog num 326 [.sl .bw 5 (vO l),.int .i64 a] [] (.sl .own 1 (wT (yF l a))):=by
 obtain ⟨hl1,hl2⟩:=kH hb
 have hg:=gF l a ha
 have hw:qS (a:Int) 0 ((l.length:Int)-1)=true:=by rw [qK]; omega
 have hw1:IntKind.i64.wrap ((a:Int)+1)=(a:Int)+1:=jF (by omega) (by omega)
 have hw2:IntKind.i64.wrap ((l.length:Int)-1)=(l.length:Int)-1:=jF (by omega) (by omega)
 refine EN m326 Try.func48 ?_
 unfold m326
 simp only [go_sem,seval]
 repeat refine K ?_
 refine CA [] (pC l 3 (by omega) (by omega) (by omega)) ?_
 try simp only [go_sem,seval]
 repeat refine K ?_
 try simp only [go_sem,seval,hb,hw2]
 repeat refine K ?_
 refine CA [] (sP (a:Int) 0 ((l.length:Int)-1)) ?_
 try simp only [go_sem,seval]
 repeat refine K ?_
 try simp only [go_sem,seval,hw,hg]
 repeat refine K ?_
 unfold yF
 generalize l.getD a default=x at hg
 simp only
 by_cases h13:x.op=13
 ·try simp only [go_sem,seval,h13]
  repeat refine K ?_
  refine ⟨_,Sub.refl _,wL ?_⟩; simp [-qYt]
  all_goals (try simp [h13,wT])
 by_cases h11:x.op=11
 ·try simp only [go_sem,seval,h13,h11]
  repeat refine K ?_
  refine ⟨_,Sub.refl _,wL ?_⟩; simp [-qYt]
  all_goals (try simp [h13,h11,wT])
 by_cases h12:x.op=12
 ·by_cases h1:x.n<(a:Int)+1
  ·try simp only [go_sem,seval,h13,h11,h12,hw1,h1]
   repeat refine K ?_
   refine ⟨_,Sub.refl _,wL ?_⟩; simp [-qYt]
   all_goals (try simp [h13,h11,h12,h1,wT])
  ·by_cases h2:(a:Int)+1<x.n
   ·try simp only [go_sem,seval,h13,h11,h12,hw1,h1,h2]
    repeat refine K ?_
    refine ⟨_,Sub.refl _,wL ?_⟩; simp [-qYt]
    all_goals (try simp [h13,h11,h12,h1,h2,wT])
   ·try simp only [go_sem,seval,h13,h11,h12,hw1,h1,h2]
    repeat refine K ?_
    refine ⟨_,Sub.refl _,wL ?_⟩; simp [-qYt]
    all_goals (try simp [h13,h11,h12,h1,h2,wT])
 try simp only [go_sem,seval,h13,h11,h12,hw1]
 repeat refine K ?_
 refine ⟨_,Sub.refl _,wL ?_⟩; simp [-qYt]
 all_goals (try simp [h13,h11,h12,wT])
theorem zU (S:KS):(bJ S).length=S.length:=by simp [bJ]
theorem aY (S:KS) (n:Nat) (h:n<S.length):(bJ S).getD n []=if kat S n=[] then qX3 4 kno else kat S n:=by
 simp [bJ,kat,qXb,h]
def zE (S:KS):List Bool:=S.map fun v=>decide (v≠[])
theorem iK (S:KS):(zE S).length=S.length:=by simp [zE]
theorem qC1 (S:KS) (n:Nat) (h:n<S.length):(zE S).getD n false=decide (kat S n≠[]):=by
 simp [zE,kat,qXb,h]
theorem qOv {S:KS} {out:KV} {n:Nat} (hw:kat S n=[]∨WfV (kat S n)) (ho:WfV out):(if kat S n=[] then out else jJ (kat S n) out)≠[]:=by
 split
 ·exact qB1 ho
 ·rename_i h
  exact qB1 (sK _ (hw.resolve_left h))
theorem qH6 {S:KS} {out:KV} {n:Nat} (hw:kat S n=[]∨WfV (kat S n)) (ho:WfV out):bJ (upd S out n)=(bJ S).set n (if kat S n=[] then out else jJ (kat S n) out):=by
 have:=qOv hw ho
 unfold upd
 generalize (if kat S n=[] then out else jJ (kat S n) out)=v at this
 unfold bJ
 rw [qZ9,if_neg this]
theorem qEz {S:KS} {out:KV} {n:Nat} (hw:kat S n=[]∨WfV (kat S n)) (ho:WfV out):zE (upd S out n)=(zE S).set n true:=by
 have:=qOv hw ho
 unfold upd
 generalize (if kat S n=[] then out else jJ (kat S n) out)=v at this
 unfold zE
 rw [qZ9]
 simp [this]
theorem qC5 {S:KS} {n:Nat} (h:n<S.length) (hk:kat S n≠[]):(zE S).set n true=zE S:=by
 have:(zE S).set n ((zE S).getD n false)=zE S:=by
  have hb:n<(zE S).length:=by rw [iK]; exact h
  rw [qXb,qYs hb,Option.getD_some,qZa]
 rw [qC1 S n h,decide_eq_true hk] at this
 exact this
structure qHu (l:List Ins) (S:KS) (td:List Int):Prop where
 inv:tR l S
 tok :∀t∈td,0≤t∧t.toNat<l.length∧kat S t.toNat≠[]
 oth :∀b,b<l.length→(b:Int)∉td→EOk l S b
 me:mS S+td.length≤5*l.length
structure qFf (l:List Ins) (S:KS) (a:Nat) (tl:List Int) (out:KV) (j:Nat) (T:KS) (td:List Int):Prop where
 inv:tR l T
 tok :∀t∈td,0≤t∧t.toNat<l.length∧kat T t.toNat≠[]
 oth :∀b,b<l.length→b≠a→(b:Int)∉td→EOk l T b
 own:(a:Int)∉td→kat T a=kat S a
 edg :∀i,i<j→kat T ((yF l a).getD i 0).toNat≠[]∧vle out (kat T ((yF l a).getD i 0).toNat)
 me:mS T+td.length≤mS S+tl.length
 me2:2*mS T+td.length≤2*mS S+tl.length
theorem qL1 {l:List Ins} {S:KS} {a:Int} {tl:List Int} {out:KV} (h:qHu l S (a::tl)):qFf l S a.toNat tl out 0 S tl:=by
 have ha:=(h.tok a (by simp)).1
 refine ⟨h.inv,fun t ht=>h.tok t (by simp [ht]),fun b hb hne hn=>h.oth b hb ?_,fun _=>rfl,fun i hi=>by omega,Nat.le_refl _,Nat.le_refl _⟩
 intro hm
 rcases List.mem_cons.1 hm with e | hm
 ·exact hne (by omega)
 ·exact hn hm
theorem qN3 {l:List Ins} {S T:KS} {a:Nat} {tl td:List Int} {out:KV} {j:Nat} (hb:wV l 3=true) (ha:a<l.length) (hS:tR l S) (hs:kat S a≠[]) (ho:out=bM (l.getD a default) (kat S a)) (h:qFf l S a tl out j T td)
  (hj:j<(yF l a).length) (hd:mA T out ((yF l a).getD j 0).toNat=true):qFf l S a tl out (j+1) (upd T out ((yF l a).getD j 0).toNat) (td++[(yF l a).getD j 0]):=by
 have hm:=yR (yF l a) j 0 hj
 have hn:=oI hb ha _ hm
 generalize hne:(yF l a).getD j 0=n at hm hn hd⊢
 have hn':n.toNat<T.length:=by rw [h.inv.len]; exact hn.2
 have hwo:WfV out:=ho▸kM _ ((hS.wf a).resolve_left hs)
 have hw:=h.inv.wf n.toNat
 have hle:=qRn hn' hw hwo
 have hmm:=qCr hn' hw hwo
 have hlt:=hmm.2 hd
 have hold :∀b,b≠n.toNat→kat (upd T out n.toNat) b=kat T b:=fun b hbn=>by rw [qCs T out n.toNat b hn',if_neg hbn]
 refine ⟨qI2 h.inv hn.2 hwo fun U hU=>ho▸qMf hS ha (kG hb ha) hs U hU n hm,fun t ht=>?_,fun b hbl hba hbn=>?_,fun han=>?_,fun i hi=>?_,?_,?_⟩
 ·rcases List.mem_append.1 ht with ht | ht
  ·have:=h.tok t ht
   refine ⟨this.1,this.2.1,?_⟩
   rcases hle t.toNat with e | e
   ·exact absurd e this.2.2
   ·exact e.1
  ·rw [List.mem_singleton.1 ht]
   exact ⟨hn.1,hn.2,(rN hn' hw hwo).1⟩
 ·have hbn':b≠n.toNat:=fun e=>hbn (by rw [e]; simp; right; omega)
  exact qT5 hle (hold b hbn') (h.oth b hbl hba fun hm=>hbn (by simp [hm]))
 ·have han':a≠n.toNat:=fun e=>han (by rw [e]; simp; right; omega)
  rw [hold a han']
  exact h.own fun hm=>han (by simp [hm])
 ·by_cases hij:i<j
  ·have:=h.edg i hij
   rcases hle ((yF l a).getD i 0).toNat with e | e
   ·exact absurd e this.1
   ·exact ⟨e.1,oB this.2 e.2⟩
  ·have:i=j:=by omega
   subst this
   rw [hne]
   exact rN hn' hw hwo
 ·have:=h.me
  simp only [qXp,qZb]
  omega
 ·have:=h.me2
  simp only [qXp,qZb]
  omega
theorem qN4 {l:List Ins} {S T:KS} {a:Nat} {tl td:List Int} {out:KV} {j:Nat} (hb:wV l 3=true) (ha:a<l.length) (hwo:WfV out) (h:qFf l S a tl out j T td)
  (hj:j<(yF l a).length) (hd:mA T out ((yF l a).getD j 0).toNat=false):qFf l S a tl out (j+1) T td:=by
 have hm:=yR (yF l a) j 0 hj
 have hn:=oI hb ha _ hm
 refine ⟨h.inv,h.tok,h.oth,h.own,fun i hi=>?_,h.me,h.me2⟩
 by_cases hij:i<j
 ·exact h.edg i hij
 ·have:i=j:=by omega
  subst this
  have hn':((yF l a).getD i 0).toNat<T.length:=by rw [h.inv.len]; exact hn.2
  have:=rN hn' (h.inv.wf _) hwo
  rw [qCq hd] at this
  exact this
theorem qQq {l:List Ins} {S T:KS} {a:Int} {tl td:List Int} {out:KV} (hO:qHu l S (a::tl)) (ho:out=bM (l.getD a.toNat default) (kat S a.toNat)) (h:qFf l S a.toNat tl out (yF l a.toNat).length T td):qHu l T td:=by
 refine ⟨h.inv,h.tok,fun b hb hn=>?_,by have:=h.me; have:=hO.me; simp only [qX4] at this; omega⟩
 by_cases hba:b=a.toNat
 ·subst hba
  intro hs n hm
  rw [h.own hn] at hs⊢
  obtain ⟨i,hi,e⟩:=List.getElem_of_mem hm
  have:=h.edg i hi
  have e':(yF l a.toNat).getD i 0=n:=by rw [←e]; simp [qXb,hi]
  rw [e',ho] at this
  exact this
 ·exact h.oth b hb hba hn
theorem qSh {n:Nat} (h:0<n):mS (xV n)+1=5*n:=by
 have ht :∀n,mF wS (qX3 n ([]:KV))=5*n:=by
  intro n
  induction n with
  | zero=>rfl
  | succ n ih=>rw [List.replicate_succ,mF,ih]; have:wS []=5:=rfl; omega
 have hs:=qCv wS [] (qX3 n ([]:KV)) 0 qBh (by simpa using h)
 have e:wS ((qX3 n ([]:KV)).getD 0 [])=5:=by
  cases n with
  | zero=>omega
  | succ n=>rfl
 have e2:wS qBh=4:=by decide
 rw [ht n,e,e2] at hs
 unfold mS xV
 omega
theorem qK9 {l:List Ins} (hb:wV l 3=true):qHu l (xV l.length) [0]:=by
 have hl:=(kH hb).1
 refine ⟨pZ hl,fun t ht=>?_,fun b hbl hn=>?_,by have:=qSh hl; simp only [qZb]; omega⟩
 ·rw [List.mem_singleton.1 ht]
  refine ⟨by omega,by omega,?_⟩
  rw [kA _ _ hl]
  decide
 ·intro hs
  rw [kA _ _ hl,if_neg (fun e=>hn (by rw [e]; simp))] at hs
  exact absurd rfl hs
theorem qQ0 {l:List Ins} {S:KS} (h:qHu l S []):pP l S:=⟨h.inv,fun a ha=>h.oth a ha (by simp)⟩
def iW:KV:=qX3 4 ⟨false,0⟩
def ini (j:Nat):KV:=qX3 j ⟨true,0⟩++qX3 (4-j) ⟨false,0⟩
theorem qL5 (n:Nat) (h:0<n):bJ (xV n)=(qX3 n iW).set 0 (ini 4):=by
 unfold bJ xV
 rw [qZ9,qZc]
 rfl
theorem qJg (n:Nat) (h:0<n):zE (xV n)=(qX3 n false).set 0 true:=by
 unfold zE xV
 rw [qZ9,qZc]
 rfl
theorem qE8 (j:Nat) (h:j≤4):(ini j).length=4:=by simp [ini]; omega
theorem qT0 :∀j,j<4→(ini j).set j ⟨true,0⟩=ini (j+1):=by
 intro j h
 rcases j with _ | _ | _ | _ | j
 ·rfl
 ·rfl
 ·rfl
 ·rfl
 ·omega
theorem qPw (n:Nat) (v:KV):List.replicate n v++[v]=List.replicate (n+1) v:=by rw [List.replicate_succ']
theorem qGs:[[AV.bool false,AV.int IntKind.i64 0],[AV.bool false,AV.int IntKind.i64 0],[AV.bool false,AV.int IntKind.i64 0],[AV.bool false,AV.int IntKind.i64 0]]=wK iW:=rfl
theorem qGf {α:Type} (l:List α) (i:Nat) (d:α) (h:i<l.length):l.set i (l.getD i d)=l:=by
 rw [qXb,qYs h,Option.getD_some,qZa]
theorem qEb (S:KS) (n:Nat) (h:n<S.length) (hk:kat S n≠[]):(qY .own (bJ S)).set n [.sl .own 2 (wK (kat S n))]=qY .own (bJ S):=by
 have e:=qGf (bJ S) n [] (by rw [zU]; exact h)
 rw [aY S n h,if_neg hk] at e
 rw [gZ,e]
theorem qD0 (l:List Ins) (Kx:KS) (hl:l.length<2^47) (hK:wV l 3=true→pP l Kx):wJ Try.prog num 289 [.sl .bw 5 (vO l)] [] (.sl .own 1 (qY .own (bO l Kx))):=by
 refine EN m289 Try.func15 ?_
 unfold m289
 simp only [go_sem,seval]
 repeat refine K ?_
 refine CA [] (pC l 3 (by omega) (by omega) (by omega)) ?_
 try simp only [go_sem,seval]
 repeat refine K ?_
 cases hb:wV l 3
 ·try simp only [go_sem,seval,hb]
  repeat refine K ?_
  refine ⟨_,Sub.refl _,wL ?_⟩; simp [-qYt]
  all_goals (try simp [bO,hb])
 have hK':=hK hb
 obtain ⟨hl1,hl2⟩:=kH hb
 have hn4:iW.length=4:=rfl
 have hbr:(qX3 l.length false).length=l.length:=by simp
 try simp only [go_sem,seval,hb]
 repeat refine K ?_
 refine wM (ι:=Nat) (fun i=>.mk [(0,.sl .bw 5 (vO l)),(3,.ns 10 0 i),(4,.ns 11 0 l.length),(5,.int .i64 i)] [(10,1,qY .own (qX3 i iW)),(11,1,jX (qX3 l.length false))] 12) (fun i=>i≤l.length) (fun i=>l.length-i) 0 (by simp) ?_ ?_
 ·refine Sub.shape [] id (by omega) ?_ ?_ ?_ ?_<;>simp [qR]
  all_goals (exact .inl (qNt _ _))
 ·intro i hi
  simp only [go_sem,seval]
  refine qX (fun hc=>?_) (fun hc=>?_)
  ·simp only [decide_eq_true_eq] at hc
   have hi':i<l.length:=by omega
   simp only [go_sem,seval,wA (i:=i) (by omega)]
   repeat refine K ?_
   rw [qGs]
   refine qT (i+1) ?_ hi' (by omega)
   refine Sub.trans (Sub.foldLast 14 0 12 rfl (by simp [-gD]<;>omega) rfl (by decide) (by decide) rfl) ?_
   simp only [fS,fS3,qA,qC,hn4]
   refine Sub.shape [] (fun n=>if n=10 then 14 else n) (by omega) ?_ ?_ ?_ ?_<;>simp [qR]
   all_goals (rw [qKr,nF,qPw])
   all_goals (exact .inl rfl)
  ·simp only [decide_eq_false_iff_not] at hc
   have he:i=l.length:=by omega
   subst he
   simp only [go_sem,seval]
   repeat refine K ?_
   refine wM (ι:=Nat) (fun j=>.mk [(0,.sl .bw 5 (vO l)),(3,.ns 10 0 l.length),(4,.ns 11 0 l.length),(6,.int .i64 j)] [(10,1,qY .own ((qX3 l.length iW).set 0 (ini j))),(11,1,jX (qX3 l.length false))] 12) (fun j=>j≤4) (fun j=>4-j) 0 (by simp) ?_ ?_
   ·have e0:(qX3 l.length iW).set 0 (ini 0)=qX3 l.length iW:=by
     have e:ini 0=iW:=rfl
     rw [e]
     cases h:l.length with
     | zero=>rfl
     | succ n=>rfl
    refine Sub.shape [] id (by omega) ?_ ?_ ?_ ?_<;>simp [qR]
    all_goals (rw [e0])
    all_goals (exact .inl rfl)
   ·intro j hj
    have hil:=qE8 j hj
    have hlen:((qX3 l.length iW).set 0 (ini j)).length=l.length:=by simp
    have hg0:(qY .own ((qX3 l.length iW).set 0 (ini j))).getD 0 []=[.sl .own 2 (wK (ini j))]:=by
     rw [vM _ _ _ (by omega),wW _ _ _ _ (by simp; omega)]
    simp only [go_sem,seval]
    refine qX (fun hc=>?_) (fun hc=>?_)
    ·simp only [decide_eq_true_eq] at hc
     have hj':j<4:=by omega
     have hgj:=jA (ini j) j (by omega)
     simp only [go_sem,seval,hg0,hgj,hlen,hil,wA (i:=j) (by omega),vZ,qT0 j hj']
     repeat refine K ?_
     refine qT (j+1) ?_ hj' (by omega)
     have hil2:=qE8 (j+1) hj'
     refine Sub.trans (Sub.foldAt 10 0 12 rfl (by simp [-gD]<;>omega) rfl (by decide) (by decide) rfl (by simp<;>omega)) ?_
     simp only [fS,fS3,qA,qC,hil2]
     refine Sub.shape [] id (by omega) ?_ ?_ ?_ ?_<;>simp [qR]
     all_goals (rw [gZ,List.set_set])
     all_goals (exact .inl rfl)
    ·simp only [decide_eq_false_iff_not] at hc
     have he:j=4:=by omega
     subst he
     have hgb:(jX (qX3 l.length false)).getD 0 []=[.bool false]:=by
      rw [qBx _ _ (by omega)]
      cases h:l.length with
      | zero=>omega
      | succ n=>rfl
     simp only [go_sem,seval,hlen,hgb,hbr]
     repeat refine K ?_
     refine wM (ι:=KS×List Int) (fun q=>.mk [(0,.sl .bw 5 (vO l)),(3,.ns 10 0 l.length),(4,.ns 11 0 l.length),(7,.ns 12 0 q.2.length)] [(10,1,qY .own (bJ q.1)),(11,1,jX (zE q.1)),(12,1,wT q.2)] 13) (fun q=>qHu l q.1 q.2) (fun q=>2*mS q.1+q.2.length) (xV l.length,[0]) (qK9 hb) ?_ ?_
     ·have e1:=qL5 l.length (by omega)
      have e2:=qJg l.length (by omega)
      refine Sub.shape [] id (by omega) ?_ ?_ ?_ ?_<;>simp [qR]
      all_goals (try rw [e1])
      all_goals (try rw [e2])
      all_goals (exact ⟨.inl rfl,.inl rfl,.inl rfl⟩)
     ·rintro ⟨T,td⟩ hO
      have hO':=hO
      simp only at hO'
      have hTl:=hO'.inv.len
      have hfl:=zU T
      have hbl:=iK T
      simp only [go_sem,seval]
      refine qX (fun hc=>?_) (fun hc=>?_)
      ·rcases td with _ | ⟨a,tl⟩
       ·simp at hc
       have hat:=hO'.tok a (by simp)
       obtain ⟨n,rfl⟩ :∃n:Nat,a=(n:Int):=⟨a.toNat,by omega⟩
       simp only [Int.toNat_natCast] at hat
       have hgi:=gF l n hat.2.1
       have hgk:(qY .own (bJ T)).getD n []=[.sl .own 2 (wK (kat T n))]:=by
        rw [vM _ _ _ (by omega),aY T n (by omega),if_neg hat.2.2]
       have hwn:=(hO'.inv.wf n).resolve_left hat.2.2
       have hme:=hO'.me
       simp only [qX4] at hme
       have hg7:(wT ((n:Int)::tl)).getD 0 []=[.int .i64 n]:=rfl
       simp only [go_sem,seval,hg7,hgi,hgk,hfl,hTl]
       repeat refine K ?_
       have hwo:=kM (l.getD n default) hwn
       have hk4:=hwn.1
       refine DA [] (qFj (l.getD n default) (kat T n) (kG hb hat.2.1) hwn.1) ?_
       try simp only [go_sem,seval]
       repeat refine K ?_
       try simp only [go_sem,seval,hk4]
       repeat refine K ?_
       refine CA [] (qFi l n hb hat.2.1) ?_
       try simp only [go_sem,seval]
       repeat refine K ?_
       try simp only [go_sem,seval,hk4]
       repeat refine K ?_
       have htk:qZd (tl.length+1-1) tl=tl:=by simp
       first | rw [htk] | rw [List.take_length] | skip
       have ho:bM (l.getD n default) (kat T n)=bM (l.getD n default) (kat T n):=rfl
       have hin:=oI hb hat.2.1
       have hst:=qL1 (out:=bM (l.getD n default) (kat T n)) hO'
       have hen:=fun U td=>qQq (T:=U) (td:=td) hO' rfl
       have hsk:=fun U td j=>qN4 (S:=T) (tl:=tl) (T:=U) (td:=td) (j:=j) hb hat.2.1 hwo
       have hsp:=fun U td j=>qN3 (S:=T) (tl:=tl) (T:=U) (td:=td) (j:=j) hb hat.2.1 hO'.inv hat.2.2 ho
       simp only [Int.toNat_natCast] at hst hen
       generalize bM (l.getD n default) (kat T n)=out at hwo hst hen hsk hsp ho⊢
       have hol:=hwo.1
       have hot:qZd 4 out=out:=qXi (by omega)
       rw [hol]
       refine wM (ι:=Nat×KS×List Int) (fun q=>.mk [(0,.sl .bw 5 (vO l)),(3,.ns 10 0 l.length),(4,.ns 11 0 l.length),(7,.ns 12 0 q.2.2.length),(9,.ns 13 0 4),(10,.ns 14 0 (yF l n).length),(11,.int .i64 q.1)] [(10,1,qY .own (bJ q.2.1)),(11,1,jX (zE q.2.1)),(12,1,wT q.2.2),(13,2,wK out),(14,1,wT (yF l n))] 15) (fun q=>q.1≤(yF l n).length∧qFf l T n tl out q.1 q.2.1 q.2.2) (fun q=>(yF l n).length-q.1) (0,T,tl) ⟨Nat.zero_le _,hst⟩ ?_ ?_
       ·refine Sub.trans (Sub.foldAt 10 0 15 rfl (by simp [-gD]<;>omega) rfl (by decide) (by decide) rfl (by simp<;>omega)) ?_
        simp only [fS,fS3,qA,qC,hk4]
        refine Sub.shape [] (fun m=>if m=12 then 14 else if m=13 then 16 else if m=14 then 17 else m) (by omega) ?_ ?_ ?_ ?_<;>simp [qR]
        all_goals (exact .inl (qEb T n (by omega) hat.2.2))
       ·rintro ⟨j,U,td⟩ ⟨hj,hI⟩
        simp only at hj hI
        have hUl:=hI.inv.len
        have hful:=zU U
        have hbul:=iK U
        simp only [go_sem,seval]
        refine qX (fun hc2=>?_) (fun hc2=>?_)
        ·simp only [decide_eq_true_eq] at hc2
         have hj':j<(yF l n).length:=by omega
         have hgn:=qJ (yF l n) j hj'
         have hmn:=hin _ (yR (yF l n) j 0 hj')
         have hsk':=hsk U td j hI hj'
         have hsp':=hsp U td j hI hj'
         generalize (yF l n).getD j 0=w at hgn hmn hsk' hsp'
         obtain ⟨m,rfl⟩ :∃m:Nat,w=(m:Int):=⟨w.toNat,by omega⟩
         simp only [Int.toNat_natCast] at hmn hsk' hsp'
         have hgb2:(jX (zE U)).getD m []=[.bool (decide (kat U m≠[]))]:=by rw [qBx _ _ (by omega),qC1 U m (by omega)]
         have hme2:=hI.me
         have hnl:(yF l n).length≤2:=by
          unfold yF
          simp only
          repeat' split
          all_goals simp
         by_cases hkm:kat U m=[]
         ·have hd:mA U out m=true:=by unfold mA; rw [decide_eq_true hkm]; rfl
          have hnx:=hsp' hd
          have hfu:=qH6 (out:=out) (.inl hkm) hwo
          have hbu:=qEz (out:=out) (.inl hkm) hwo
          rw [if_pos hkm] at hfu
          rw [show decide (kat U m≠[])=false from decide_eq_false (fun h=>h hkm)] at hgb2
          have hgk2:(qY .own (bJ U)).getD m []=[.sl .own 2 (wK (qX3 4 kno))]:=by
           rw [vM _ _ _ (by omega),aY U m (by omega),if_pos hkm]
          simp only [go_sem,seval,hgn,hgb2,hgk2,hful,hbul,hUl,qEu,hol,hot,wA (i:=j) (by omega)]
          repeat refine K ?_
          refine qT (j+1,upd U out m,td++[(m:Int)]) ?_ ⟨hj',hnx⟩ (by simp only; omega)
          refine Sub.trans (Sub.foldAt 10 0 16 rfl (by simp [-gD]<;>omega) rfl (by decide) (by decide) rfl (by simp<;>omega)) ?_
          simp only [fS,fS3,qA,qC,hol,hot]
          simp only [hfu,hbu,qXp,qZb]
          refine Sub.shape [] (fun q=>if q=12 then 18 else q) (by omega) ?_ ?_ ?_ ?_<;>simp [qR]
          all_goals (rw [gZ,qKw,fT])
          all_goals (exact ⟨.inl rfl,.inl rfl⟩)
         ·rw [show decide (kat U m≠[])=true from decide_eq_true hkm] at hgb2
          have hgk2:(qY .own (bJ U)).getD m []=[.sl .own 2 (wK (kat U m))]:=by
           rw [vM _ _ _ (by omega),aY U m (by omega),if_neg hkm]
          have hwm:=(hI.inv.wf m).resolve_left hkm
          have hm4:=hwm.1
          have hmt:qZd 4 (kat U m)=kat U m:=qXi (by omega)
          have hsame:=qEb U m (by omega) hkm
          have hfu:=qH6 (out:=out) (.inr hwm) hwo
          have hbu:=qEz (out:=out) (.inr hwm) hwo
          rw [qC5 (by omega) hkm] at hbu
          rw [if_neg hkm] at hfu
          have hud:mA U out m=xB (kat U m) out:=by unfold mA; rw [decide_eq_false hkm]; rfl
          rw [hud] at hsk' hsp'
          have hmml:=uV (kat U m) out
          rw [hm4] at hmml
          have hmmt:qZd 4 (jJ (kat U m) out)=jJ (kat U m) out:=qXi (by omega)
          generalize kat U m=v at hgk2 hm4 hmt hsame hfu hud hsk' hsp' hmml hmmt
          simp only [go_sem,seval,hgn,hgb2,hgk2,hful,hbul,hUl,hm4,hmt,hot]
          repeat refine K ?_
          refine CA [] (qJw v out (by omega) (by omega)) ?_
          try simp only [go_sem,seval]
          repeat refine K ?_
          cases hls:xB v out
          ·try simp only [go_sem,seval,hls,hm4,hmml,hmmt,hmt,hot,wA (i:=j) (by omega)]
           repeat refine K ?_
           refine qT (j+1,U,td) ?_ ⟨hj',hsk' hls⟩ (by simp only; omega)
           refine Sub.trans (Sub.foldAt 10 0 15 rfl (by simp [-gD]<;>omega) rfl (by decide) (by decide) rfl (by simp<;>omega)) ?_
           simp only [fS,fS3,qA,qC,hm4,hmt]
           simp only [hsame]
           refine Sub.shape [] id (by omega) ?_ ?_ ?_ ?_<;>simp [qR]
           all_goals trace_state
          ·have hgs :∀r,((qY .own (bJ U)).set m r).getD m []=r:=fun r=>wW _ _ _ _ (by rw [yP]; omega)
           try simp only [go_sem,seval,hls,hm4,hmml,hmmt,hmt,hot,hgs,wA (i:=j) (by omega)]
           repeat refine K ?_
           refine qT (j+1,upd U out m,td++[(m:Int)]) ?_ ⟨hj',hsp' hls⟩ (by simp only; omega)
           refine Sub.trans (Sub.foldAt 10 0 16 rfl (by simp [-gD]<;>omega) rfl (by decide) (by decide) rfl (by simp<;>omega)) ?_
           simp only [fS,fS3,qA,qC,hmml,hmmt]
           simp only [hfu,hbu,qXp,qZb]
           refine Sub.shape [] (fun q=>if q=12 then 18 else q) (by omega) ?_ ?_ ?_ ?_<;>simp [qR]
           all_goals (rw [gZ,qKw,fT])
           all_goals (exact ⟨.inl rfl,.inl rfl⟩)
        ·simp only [decide_eq_false_iff_not] at hc2
         have he:j=(yF l n).length:=by omega
         subst he
         have hE:=hen U td hI
         have hm2:=hI.me2
         simp only [go_sem,seval,hful,hUl]
         repeat refine K ?_
         refine qT (U,td) ?_ hE (by simp only; omega)
         refine Sub.shape [] id (by omega) ?_ ?_ ?_ ?_<;>simp [qR]
      ·have he:td=[]:=by
        cases td with
        | nil=>rfl
        | cons a tl=>simp at hc
       subst he
       have hTK:=qDv (qQ0 hO') hK'
       rw [hTK] at hfl hTl⊢
       have hKl:(bJ Kx).length=l.length:=by rw [hfl,hTl]
       simp only [go_sem,seval]
       repeat refine K ?_
       refine ⟨_,Sub.refl _,wL ?_⟩; simp [-qYt]
       all_goals (try simp [bO,hb,hKl])
end Go.Sep
