/- Contracts of functions. -/
import Derived.Test.YtebbppogicgpkaaGreatRxx20
namespace Go.Sep
set_option maxHeartbeats 16000000
open Go.Proofs
set_option linter.unusedSimpArgs false
set_option linter.unusedVariables false
set_option maxRecDepth 100000
open Nat renaming reduceAdd → qA, reduceMul → qB, reduceEqDiff → qC, reduceBEq → qD
open Int renaming reduceToNat → qE, reduceEq → qF, reduceLT → qG, reduceLE → qH
open List renaming getD_eq_getElem?_getD → gD
def m346:MFn:=⟨21,[],kr [xI 6 0] (.blk 0 (.loop (.seq (kr [xv 7 6,xv 8 2,bT 9 .lss 7 8,xv 10 9,yv 11 6 10,yI 12 .lss 11 4000 10,xP 13 10 12] (kX 13 0)) (.seq (.blk 1 (kr [xv 16 0,xv 17 1,xo 18 (.build [xz,xz] [(0,1,.t 17)]),xo 19 (.call 359 [true,false] [.t 16,.t 18]),bI 20 .neq 19 0] (.cond 20 (.ret) (.skip)))) (xr [xv 14 6,bI 15 .add 14 1,xv 6 15])))))⟩
def m364:MFn:=⟨36,[.cell 6 4 true],kr [xb 3 0,xo 6 (.alloc [.nil,.nil,.nil,.nil])] (.seq (kr [xI 7 0] (.blk 0 (.loop (.seq (kr [xv 10 7,xv 11 2,xc2 12 147 (.t 11) (xi 4000),bT 13 .lss 10 12] (kX 13 0)) (.seq (.blk 1 (.seq (kr [xa 16 1 3,xl 17 16,xv 18 1,xD 19 4 17 18,xa 20 3 19,xl 21 20,bI 22 .neq 21 0] (kF 22 [xm 23 4 3,xS 4 6 23])) (kr [xm 25 4 3,xv 26 1,xo 27 (.build [xz,xz] [(0,1,.t 26)]),xo 28 (.call 357 [true,false] [.t 25,.t 27]),xv 24 28,xX 29 24 0,xX 30 24 1,xo 8 (.alloc [.nil,.nil,.nil,.nil]),xS 4 8 29,xv 9 30] (.seq (kr [xv 31 9,bI 32 .neq 31 0] (kF 32 [xm 33 4 3,xS 4 6 33])) (xr [xm 34 4 8,xS 4 3 34]))))) (xr [xv 14 7,bI 15 .add 14 1,xv 7 15])))))) (kR [xm 35 4 3,xS 4 6 35]))⟩
theorem Sub.foldG (nm i f k:Nat) {off:Nat} {t:List (Nat×AV)} {h:wZ} {nx sz sz' len:Nat} {rows rows':List (List AV)} {r:List AV} (hk:qU h k=some (sz',rows')) (hlen:off+len≤rows'.length) (hnm:qU h nm=some (sz,rows)) (hne:k≠nm)
  (hr:rows[i]?=some r) (hf:r[f]?=some (.ns k off len)):Sub (.mk t h nx) (.mk t (del (put h nm (sz,rows.set i (r.set f (.sl .own sz' (bV off len rows'))))) k) nx):=by
 rintro B a w ⟨h1,h2,hb,hbt,φ,Lf,hl⟩
 let φ':Nat→vD:=fun n=>if n=k then .dead else φ n
 have hor :∀n,φ' n=φ n∨φ' n=.dead:=fun n=>by
  show (if n=k then vD.dead else φ n)=φ n∨(if n=k then vD.dead else φ n)=.dead
  by_cases hn:n=k
  ·rw [if_pos hn]; exact .inr rfl
  ·rw [if_neg hn]; exact .inl rfl
 have hkeep :∀(A:Nat→Prop) (L:List Nat),gJ (B.env w φ) (B.env w φ') A L:=fun A L=>{num:=rfl,fr:=fun m b hb'=>by cases m<;>exact hb',cells:=fun b _ o=>rfl,φ:=fun n _=>hor n,own:=fun b _=>rfl}
 have hφ :∀n,n≠k→(B.env w φ').φ n=(B.env w φ).φ n:=fun n hn=>if_neg hn
 have rk:=hl.ok.rh.row k _ hk
 have rn:=hl.ok.rh.row nm _ hnm
 obtain ⟨hi,hri⟩:=List.getElem?_eq_some_iff.1 hr
 obtain ⟨hfl,hrf⟩:=List.getElem?_eq_some_iff.1 hf
 have key :∃p Lr,φ nm=.at p∧p.sz=sz∧iR w p rows.length∧yW (B.env w φ) w p.block p.off p.sz rows Lr∧Lf nm=p.block::Lr:=by
  unfold bH gQ at rn
  have he:(B.env w φ).φ nm=φ nm:=rfl
  rw [he] at rn
  cases hq:φ nm with
  | dead=>rw [hq] at rn; exact rn.elim
  | nilp=>rw [hq] at rn; simp only at rn; rw [rn.1] at hi; simp at hi
  | «at» p =>
   rw [hq] at rn
   obtain ⟨a1,a2,Lr,a3,a4⟩:=rn
   exact ⟨p,Lr,rfl,a1,a2,a3,a4⟩
 obtain ⟨p,Lr,hp,psz,pown,prow,pL⟩:=key
 obtain ⟨vs,L1,L2,L3,s1,s2,s3,s4,s5,s6,rfl⟩:=cN i hi prow
 rw [hri] at s1 s4
 have hrs:r=r.take f++(.ns k off len::r.drop (f+1)):=by rw [←hrf]; simp
 rw [hrs] at s4
 obtain ⟨A1,A2,cs1,cs2,hcs,q1,q2,rfl⟩ :∃A1 A2 cs1 cs2,vs=cs1++cs2∧RVs (B.env w φ) (r.take f) cs1 A1∧RVs (B.env w φ) (.ns k off len::r.drop (f+1)) cs2 A2∧L2=A1++A2:=by
  obtain ⟨c1,c2,M1,M2,g1,g4,g2,g3⟩:=(uL _ _).1 s4
  exact ⟨M1,M2,c1,c2,g1,g2,g3,g4⟩
 simp only [RVs] at q2
 obtain ⟨v,vs',B1,B2,rfl,v1,v2,rfl⟩:=q2
 have hB1:B1=[]:=by simp only [RV] at v1; exact v1.1
 subst hB1
 obtain ⟨L',o1,hsub,o3⟩:=qDo rk v1 hlen
 have hnew:RVs (B.env w φ) (r.set f (.sl .own sz' (bV off len rows'))) vs (A1++(L'++B2)):=by
  have:r.set f (.sl .own sz' (bV off len rows'))=r.take f++(.sl .own sz' (bV off len rows')::r.drop (f+1)):=by rw [List.set_eq_take_append_cons_drop,if_pos hfl]
  rw [this,hcs]
  refine (uL _ _).2 ⟨_,_,_,_,rfl,rfl,q1,?_⟩
  simp only [RVs]
  exact ⟨v,vs',L',B2,rfl,o1,v2,rfl⟩
 have hsz:(r.set f (.sl .own sz' (bV off len rows'))).length=p.sz∧(r.set f (.sl .own sz' (bV off len rows'))).all jD=true:=by
  refine ⟨by rw [List.length_set]; exact s1.1,?_⟩
  refine List.all_eq_true.2 fun x hx=>?_
  rcases List.mem_or_eq_of_mem_set hx with hx | rfl
  ·exact List.all_eq_true.1 s1.2 x hx
  ·rfl
 have hrows:=oT i hi hsz s2 s3 hnew s5 s6
 let Ln:List Nat:=p.block::(L1++((A1++(L'++B2))++L3))
 have hperm:Ln.Perm (Lf nm++L'):=by
  refine List.perm_iff_count.2 fun x=>?_
  show List.count x (p.block::(L1++((A1++(L'++B2))++L3)))=List.count x (Lf nm++L')
  rw [pL]
  simp only [List.nil_append,List.count_cons,List.count_append]
  omega
 have hkn:qU h k≠none:=by rw [hk]; simp
 have hnn:qU h nm≠none:=by rw [hnm]; simp
 have hmem :∀x,x∈Ln↔x∈Lf nm∨x∈L':=fun x=>by rw [hperm.mem_iff,List.mem_append]
 have hnd:Ln.Nodup:=by
  refine hperm.nodup_iff.2 (List.nodup_append.2 ⟨hl.ok.rh.nodup nm hnn,?_,fun x hx y hy hxy=>?_⟩)
  ·exact o3 (hl.ok.rh.nodup k hkn)
  ·subst hxy
   exact hl.ok.rh.dis k nm hkn hnn hne x (hsub x hy) hx
 let h':wZ:=del (put h nm (sz,rows.set i (r.set f (.sl .own sz' (bV off len rows'))))) k
 have hlook :∀n,qU h' n=if n=k then none else if n=nm then some (sz,rows.set i (r.set f (.sl .own sz' (bV off len rows')))) else qU h n:=fun n=>by
  show qU (del _ k) n=_
  rw [pZ]
  by_cases hn:n=k
  ·rw [if_pos hn,if_pos hn]
  ·rw [if_neg hn,if_neg hn,qGv]
 let Lf':Nat→List Nat:=fun n=>if n=k then [] else if n=nm then Ln else Lf n
 have Lk:Lf' k=[]:=if_pos rfl
 have Lnm:Lf' nm=Ln:=by show (if nm=k then [] else if nm=nm then Ln else Lf nm)=Ln; rw [if_neg (Ne.symm hne),if_pos rfl]
 have Lo :∀n,n≠k→n≠nm→Lf' n=Lf n:=fun n a b=>by show (if n=k then [] else if n=nm then Ln else Lf n)=Lf n; rw [if_neg a,if_neg b]
 have lookk:qU h' k=none:=by rw [hlook,if_pos rfl]
 have lookn:qU h' nm=some (sz,rows.set i (r.set f (.sl .own sz' (bV off len rows')))):=by rw [hlook,if_neg (Ne.symm hne),if_pos rfl]
 have looko :∀n,n≠k→n≠nm→qU h' n=qU h n:=fun n a b=>by rw [hlook,if_neg a,if_neg b]
 have from_ :∀n,qU h' n≠none→∀b∈Lf' n,(b∈Lf n∧qU h n≠none)∨(n=nm∧b∈Lf k):=by
  intro n hn b hb'
  by_cases hnk:n=k
  ·subst hnk; exact absurd lookk hn
  ·by_cases hnn':n=nm
   ·subst hnn'
    rw [Lnm] at hb'
    rcases (hmem b).1 hb' with hx | hx
    ·exact .inl ⟨hx,hnn⟩
    ·exact .inr ⟨rfl,hsub b hx⟩
   ·rw [Lo n hnk hnn'] at hb'
    rw [looko n hnk hnn'] at hn
    exact .inl ⟨hb',hn⟩
 refine ⟨h1,h2,?_,hbt,φ',Lf',?_,?_,?_,hl.ten⟩
 ·intro n row hr'
  rw [hlook] at hr'
  split at hr'
  ·simp at hr'
  ·split at hr'
   ·rename_i _ hn
    simp only [Option.some.injEq] at hr'
    subst hr'
    obtain ⟨b1,b2⟩:=hb nm _ hnm
    obtain ⟨b3,b4⟩:=hb k _ hk
    refine ⟨by omega,yD.2 fun x hx=>?_⟩
    rcases List.mem_or_eq_of_mem_set hx with hx | rfl
    ·exact yD.1 b2 x hx
    ·refine jU.2 fun y hy=>?_
     rcases List.mem_or_eq_of_mem_set hy with hy | rfl
     ·exact jU.1 (yD.1 b2 r (cZ hr)) y hy
     ·exact sZ b4
   ·exact hb n row hr'
 ·refine {size0:=hl.ok.size0,io0:=hl.ok.io0,fr:=hl.ok.fr,keep0:=hl.ok.keep0,own0:=?_,rh:={row:=?_,nodup:=?_,blk:=?_,dis:=?_,dead:=?_}}
  ·intro n hn b hb'
   rcases from_ n hn b hb' with ⟨x1,x2⟩ | ⟨_,x1⟩
   ·exact hl.ok.own0 n x2 b x1
   ·exact hl.ok.own0 k hkn b x1
  ·intro n row hr'
   by_cases hnk:n=k
   ·subst hnk; rw [lookk] at hr'; simp at hr'
   ·by_cases hnn':n=nm
    ·subst hnn'
     rw [lookn] at hr'
     simp only [Option.some.injEq] at hr'
     subst hr'
     rw [Lnm]
     unfold bH gQ
     rw [hφ n hnk]
     have he:(B.env w φ).φ n=.at p:=hp
     rw [he]
     refine ⟨psz,by rw [List.length_set]; exact pown,_,?_,rfl⟩
     exact uV (A:=fun _=>True) _ (hkeep _ _) (yD.2 fun x _=>jU.2 fun y _=>lK (A:=(· < nx)) (fun _ _=>trivial) y (by
      obtain ⟨b1,b2⟩:=hb n _ hnm
      obtain ⟨b3,b4⟩:=hb k _ hk
      rename_i hx hy
      rcases List.mem_or_eq_of_mem_set hx with hx | rfl
      ·exact jU.1 (yD.1 b2 x hx) y hy
      ·rcases List.mem_or_eq_of_mem_set hy with hy | rfl
       ·exact jU.1 (yD.1 b2 r (cZ hr)) y hy
       ·exact sZ b4)) (fun _ _=>rfl) hrows
    ·rw [looko n hnk hnn'] at hr'
     rw [Lo n hnk hnn']
     exact (hl.ok.rh.row n row hr').keep (hkeep _ _) (hφ n hnk) (hb n row hr').2
  ·intro n hn
   by_cases hnk:n=k
   ·subst hnk; exact absurd lookk hn
   ·by_cases hnn':n=nm
    ·subst hnn'; rw [Lnm]; exact hnd
    ·rw [Lo n hnk hnn']
     rw [looko n hnk hnn'] at hn
     exact hl.ok.rh.nodup n hn
  ·intro n hn b hb'
   rcases from_ n hn b hb' with ⟨x1,x2⟩ | ⟨_,x1⟩
   ·exact hl.ok.rh.blk n x2 b x1
   ·exact hl.ok.rh.blk k hkn b x1
  ·intro n m hn hm hnm' b hb1 hb2
   have nk:n≠k:=fun he=>by subst he; exact hn lookk
   have mk:m≠k:=fun he=>by subst he; exact hm lookk
   rcases from_ n hn b hb1 with ⟨x1,x2⟩ | ⟨rfl,x1⟩<;>rcases from_ m hm b hb2 with ⟨y1,y2⟩ | ⟨rfl,y1⟩
   ·exact hl.ok.rh.dis n m x2 y2 hnm' b x1 y1
   ·exact hl.ok.rh.dis n k x2 hkn nk b x1 y1
   ·exact hl.ok.rh.dis m k y2 hkn mk b y1 x1
   ·exact hnm' rfl
  ·intro n hn
   show (if n=k then vD.dead else φ n)=.dead
   by_cases hnk:n=k
   ·rw [if_pos hnk]
   ·rw [if_neg hnk]
    by_cases hnn':n=nm
    ·subst hnn'; rw [lookn] at hn; simp at hn
    ·rw [looko n hnk hnn'] at hn
     exact hl.ok.rh.dead n hn
 ·intro n
  exact fE (A:=(· < nx)) _ (hkeep _ _) (hbt n) (hl.tm n)
 ·intro n hn
  obtain ⟨x1,x2⟩:=hl.φ0 n hn
  refine ⟨x1,?_⟩
  show (if n=k then vD.dead else φ n)=B.φ0 n∨(if n=k then vD.dead else φ n)=.dead
  by_cases hnk:n=k
  ·rw [if_pos hnk]; exact .inr rfl
  ·rw [if_neg hnk]; exact x2
theorem G1 (nm f k:Nat) {off:Nat} {t:List (Nat×AV)} {h:wZ} {nx sz sz' len:Nat} {rows':List (List AV)} {r:List AV} {s':AS} (hr:Sub (.mk t (del (put h nm (sz,[r.set f (.sl .own sz' (bV off len rows'))])) k) nx) s')
  (hk:qU h k=some (sz',rows'):=by rfl) (hnm:qU h nm=some (sz,[r]):=by rfl) (hne:k≠nm:=by decide)
  (hf:r[f]?=some (.ns k off len):=by rfl) (hlen:off+len≤rows'.length:=by (simp [-List.getD_eq_getElem?_getD]<;>omega)):Sub (.mk t h nx) s':=Sub.trans (Sub.foldG nm 0 f k (t:=t) (nx:=nx) hk hlen hnm hne (r:=r) (by simp) hf) hr
def vG (wQ:Int):Nat:=(min wQ 4000).toNat
theorem qBk {n i:Nat} (h:i<n) (m:qK) (who:Int) (hc:(wL m ⟨who,0⟩).2=0):vA (n-i) m who=vA (n-(i+1)) (wL m ⟨who,0⟩).1 who:=by
 obtain ⟨j,rfl⟩:=Nat.exists_eq_add_of_lt h
 have e1:i+j+1-i=j+1:=by omega
 have e2:i+j+1-(i+1)=j:=by omega
 rw [e1,e2]
 conv=>lhs; unfold vA
 rw [if_pos hc]
theorem oD {n i:Nat} (h:i<n) (m:qK) (who:Int) (hc:(wL m ⟨who,0⟩).2≠0):vA (n-i) m who=m:=by
 obtain ⟨j,rfl⟩:=Nat.exists_eq_add_of_lt h
 have e1:i+j+1-i=j+1:=by omega
 rw [e1]
 unfold vA
 rw [if_neg hc]
 exact qBg hc
theorem qH9 (m:qK) (who wQ:Int) (h:qX m=true):qZ Tryz.prog num 346 [.ptr 0 0 0,.int .i64 who,.int .i64 wQ] [(0,some (4,[qN .own m]),some (4,[qN .own (vA (vG wQ) m who)]))] (.tup []):=by
 refine EH m346 Tryz.func86 ?_
 unfold m346
 simp only [go_sem,seval]
 refine wC (ι:=Nat×qK) (fun q=>.mk [(0,.ptr 0 0 0),(1,.int .i64 who),(2,.int .i64 wQ),(6,.int .i64 q.1)] [(0,4,[qN .own q.2])] 10) (fun q=>q.1≤vG wQ∧qX q.2=true∧vA (vG wQ-q.1) q.2 who=vA (vG wQ) m who) (fun q=>vG wQ-q.1) (0,m) ⟨by simp,h,rfl⟩ ?_ ?_
 ·refine Sub.shape [] id (by omega) ?_ ?_ ?_ ?_<;>simp [qP]
 ·rintro ⟨i,M⟩ ⟨hi,hM,he⟩
  simp only at hi hM he
  have hb:i≤4000:=by unfold vG at hi; omega
  by_cases hlt:i<vG wQ
  case neg =>
   have hfin:M=vA (vG wQ) m who:=by
    rw [←he]
    have:vG wQ-i=0:=by omega
    rw [this]
    rfl
   rw [←hfin]
   by_cases h1:(i:Int)<wQ
   ·have h2 :¬(i:Int)<4000:=by unfold vG at hlt; omega
    simp only [go_sem,seval,h1,h2]
    rw [qFn]
    apply wN (by decide)
    ·exact Sub.refl _
    ·simp [-List.drop_one,-gD,qN]<;>(first | rfl | exact ⟨rfl,rfl⟩ | exact ⟨rfl,rfl,rfl⟩ | skip)
   ·simp only [go_sem,seval,h1]
    rw [qFn]
    apply wN (by decide)
    ·exact Sub.refl _
    ·simp [-List.drop_one,-gD,qN]<;>(first | rfl | exact ⟨rfl,rfl⟩ | exact ⟨rfl,rfl,rfl⟩ | skip)
  have h1:(i:Int)<wQ:=by unfold vG at hlt; omega
  have h2:(i:Int)<4000:=by unfold vG at hlt; omega
  simp only [go_sem,seval,h1,h2]
  refine CA [(0,0)] (qEe M ⟨who,0⟩ hM (by simp)) ?_
  try simp only [go_sem,seval]
  by_cases hc:(wL M ⟨who,0⟩).2=0
  ·try simp only [go_sem,seval,hc,qR (i:=i) (by omega)]
   refine qT (i+1,(wL M ⟨who,0⟩).1) ?_ ⟨hlt,dK _ hM,by rw [←qBk hlt M who hc]; exact he⟩ (by simp only; omega)
   refine Sub.shape [] id (by omega) ?_ ?_ ?_ ?_<;>simp [qP]
  ·try simp only [go_sem,seval,hc]
   have hfin:vA (vG wQ) m who=(wL M ⟨who,0⟩).1:=by
    rw [←he,oD hlt M who hc,qBg hc]
   rw [hfin]
   apply wN (by decide)
   ·exact Sub.refl _
   ·simp [-List.drop_one,-gD,qN]<;>(first | rfl | exact ⟨rfl,rfl⟩ | exact ⟨rfl,rfl,rfl⟩ | skip)
theorem qEc (m:qK) (i:Nat) (wQ:Int) (h:qX m=true) (hi:i<m.cores.length):qZ Tryz.prog num 364 [iC m,.int .i64 i,.int .i64 wQ] (tF m) (.agg (qN .own (vA (vG wQ) m i))):=by
 refine EH m364 Tryz.func103 (hh:=qBj m) ?_
 unfold m364
 simp only [go_sem,seval]
 refine wC (ι:=Nat×qK) (fun q=>.mk [(1,.int .i64 i),(2,.int .i64 wQ),(3,.ptr 10 0 0),(6,.ptr 11 0 0),(7,.int .i64 q.1)] [(10,4,[qN .own q.2]),(11,4,[[.nil,.nil,.nil,.nil]])] 12) (fun q=>q.1≤vG wQ∧qX q.2=true∧q.2.cores.length=m.cores.length∧vA (vG wQ-q.1) q.2 i=vA (vG wQ) m i) (fun q=>vG wQ-q.1) (0,m) ⟨by simp,h,rfl,rfl⟩ ?_ ?_
 ·refine G1 10 0 0 ?_
  simp only [fS,fS2,fS2,qA,qC]
  refine G1 10 1 1 ?_
  simp only [fS,fS2,fS2,qA,qC]
  refine G1 10 2 2 ?_
  simp only [fS,fS2,fS2,qA,qC]
  refine G1 10 3 3 ?_
  simp only [fS,fS2,fS2,qA,qC]
  refine Sub.shape [] id (by omega) ?_ ?_ ?_ ?_<;>simp [qP]
 ·rintro ⟨j,M⟩ ⟨hj,hMk,hlen,he⟩
  simp only at hj hMk hlen he
  have hb:j≤4000:=by unfold vG at hj; omega
  have hM:=(wT M).1 hMk
  have hil:i<M.cores.length:=by omega
  have hcg:=yL .own M.cores i hil
  have hk:M.cores.getD i default=qJ M i:=rfl
  rw [hk] at hcg
  simp only [go_sem,seval]
  refine CA [] (qOh wQ 4000) ?_
  try simp only [go_sem,seval]
  by_cases hlt:j<vG wQ
  case neg =>
   have hd:decide ((j:Int)<if wQ<4000 then wQ else 4000)=false:=by
    unfold vG at hlt
    simp
    omega
   have hfin:M=vA (vG wQ) m i:=by
    rw [←he]
    have:vG wQ-j=0:=by omega
    rw [this]
    rfl
   rw [←hfin]
   try simp only [go_sem,seval,hd]
   refine ⟨_,Sub.refl _,yJ ?_⟩; simp [-List.drop_one]
  have hd:decide ((j:Int)<if wQ<4000 then wQ else 4000)=true:=by
   unfold vG at hlt
   simp
   omega
  try simp only [go_sem,seval,hd,hcg]
  repeat refine K ?_
  by_cases hst:(qJ M i).st=0
  case neg =>
   have hc:(wL M ⟨i,0⟩).2≠0:=by rw [zT (late:=0) rfl rfl hil (.inl (.inl hst))]; simp
   have hfin:vA (vG wQ) m i=M:=by rw [←he,oD hlt M i hc]
   rw [hfin]
   try simp only [go_sem,seval,hst,hcg]
   refine ⟨_,Sub.refl _,yJ ?_⟩; simp [-List.drop_one]
  try simp only [go_sem,seval,hst,hcg]
  by_cases hc:(wL M ⟨i,0⟩).2=0
  ·refine CA [(0,13),(1,12),(2,14),(3,15)] (qD5 M i 0 hM hil hst hc (by simp)) ?_
   try simp only [go_sem,seval]
   try simp only [go_sem,seval,qR (i:=j) (by omega)]
   refine qT (j+1,(wL M ⟨i,0⟩).1) ?_ ⟨hlt,dK _ hMk,by rw [(cK M ⟨i,0⟩).1]; exact hlen,by rw [←qBk hlt M i hc]; exact he⟩ (by simp only; omega)
   refine Sub.trans (Sub.fold1 10 0 16 rfl (by simp [-gD]<;>omega) rfl (by decide) (by decide) rfl) ?_
   simp only [fS,fS2,qA,qC]
   refine Sub.trans (Sub.fold1 10 1 17 rfl (by simp [-gD]<;>omega) rfl (by decide) (by decide) rfl) ?_
   simp only [fS,fS2,qA,qC]
   refine Sub.trans (Sub.fold1 10 2 18 rfl (by simp [-gD]<;>omega) rfl (by decide) (by decide) rfl) ?_
   simp only [fS,fS2,qA,qC]
   refine Sub.trans (Sub.fold1 10 3 19 rfl (by simp [-gD]<;>omega) rfl (by decide) (by decide) rfl) ?_
   simp only [fS,fS2,qA,qC]
   refine Sub.shape [] id (by omega) ?_ ?_ ?_ ?_<;>simp [qP]
  ·have hfin:vA (vG wQ) m i=M:=by rw [←he,oD hlt M i hc]
   rw [hfin]
   refine CA [(0,13),(1,12),(2,14),(3,15)] (qAb M i 0 hM hil hst hc (by simp)) ?_
   try simp only [go_sem,seval]
   refine ⟨_,Sub.refl _,yJ ?_⟩; simp [-List.drop_one]
end Go.Sep
