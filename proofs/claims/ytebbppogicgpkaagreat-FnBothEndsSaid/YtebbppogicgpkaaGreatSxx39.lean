/- Contracts of functions. -/
import Derived.Test.YtebbppogicgpkaaGreatSxx38
import Derived.Test.YtebbppogicgpkaaGreatSxx42
namespace Go.Sep
set_option maxHeartbeats 16000000
open Go.Proofs
set_option linter.unusedSimpArgs false
set_option linter.unusedVariables false
set_option maxRecDepth 100000
def m395:MFn:=⟨66,[.t 6],kr [xb 3 0,xb 4 1,xb 5 2,xF 6] (.seq (kr [xm 9 2 3,xc1 10 48 (.t 9),xN 11 10,xv 12 11,xg 13 (.load 4 true (.t 4)) 12 false,xg 14 (.call 235 [false] [.t 13]) 12 false,zN 15 14 12,xQ 16 12 15,xv 17 16,xg 18 (.load 2 true (.t 3)) 17 false,xg 19 (.load 3 true (.t 5)) 17 false,xg 20 (.call 50 [false,false] [.t 18,.t 19]) 17 false,zN 21 20 17,xQ 22 17 21,xv 23 22,za 24 1 4 23,zl 25 1 24 23,ze 26 25 23,za 27 0 5 23,zl 28 1 27 23,ze 29 28 23,xg 30 (.bin .neq (.t 26) (.t 29)) 23 false,xQ 31 23 30,xv 32 31,za 33 3 4 32,zl 34 1 33 32,za 35 2 5 32,zl 36 1 35 32,xg 37 (.call 419 [false,false] [.t 34,.t 36]) 32 false,zN 38 37 32,xQ 39 32 38] (kF 39 [xF 6])) (.seq (kr [xa 40 1 4,xl 41 40,xe 42 41,xI 43 0] (.blk 0 (.loop (kr [bT 44 .lss 43 42] (.seq (kX 44 0) (.seq (.blk 1 (kr [xv 45 43,xv 7 45] (kr [xm 46 2 3,xm 47 4 4,xm 48 3 5,xv 49 7,xo 50 (.call 175 [false,false,false,false] [.t 46,.t 47,.t 48,.t 49]),xN 51 50] (kF 51 [xF 6])))) (xr [bI 52 .add 43 1,xv 43 52]))))))) (.seq (kr [xa 53 0 3,xl 54 53,xe 55 54,xI 56 0] (.blk 2 (.loop (kr [bT 57 .lss 56 55] (.seq (kX 57 2) (.seq (.blk 3 (kr [xv 58 56,xv 8 58] (kr [xm 59 2 3,xm 60 4 4,xm 61 3 5,xv 62 8,xo 63 (.call 420 [false,false,false,false] [.t 59,.t 60,.t 61,.t 62]),xN 64 63] (kF 64 [xF 6])))) (xr [bI 65 .add 56 1,xv 56 65]))))))) (kR [xT 6]))))⟩
def m420:MFn:=⟨68,[.t 8],kr [xb 4 0,xb 5 1,xb 6 2,xF 8] (.seq (kr [xv 12 3,xa 13 0 4,xl 14 13,xe 15 14,bI 16 .sub 15 1,xc3 17 59 (.t 12) (xi 0) (.t 16),xN 18 17,xv 19 18,zv 20 3 19,za 21 1 6 19,zl 22 1 21 19,ze 23 22 19,xg 24 (.bin .geq (.t 20) (.t 23)) 19 false,xQ 25 19 24] (kF 25 [xF 8])) (.seq (kr [xa 26 2 5,xm 27 1 26,xa 28 0 4,xl 29 28,xv 30 3,xc3 31 424 (.t 27) (.t 29) (.t 30)] (kF 31 [xT 8])) (kr [xa 33 2 5,xm 34 1 33,xa 35 0 4,xl 36 35,xv 37 3,xc3 38 423 (.t 34) (.t 36) (.t 37),xv 32 38,xX 39 32 0,xX 40 32 1,xo 9 (.alloc [.int .i64 0,.nil,.bool false]),xS 3 9 39,xv 10 40] (kr [xa 41 1 6,xl 42 41,xv 43 3,xD 44 3 42 43,xm 45 3 44,xo 11 (.alloc [.int .i64 0,.nil,.bool false]),xS 3 11 45] (kR [xv 46 10,xv 47 46,ya 48 0 9 47,yl 49 1 48 47,ya 50 0 11 47,yl 51 1 50 47,xg 52 (.bin .eql (.t 49) (.t 51)) 47 true,xP 53 47 52,xv 54 53,ya 55 1 9 54,yl 56 1 55 54,ya 57 1 11 54,yl 58 1 57 54,xg 59 (.call 34 [false,false] [.t 56,.t 58]) 54 true,xP 60 54 59,xv 61 60,ya 62 2 9 61,yl 63 1 62 61,ya 64 2 11 61,yl 65 1 64 61,xg 66 (.eqB false (.t 63) (.t 65)) 61 true,xP 67 61 66,xv 8 67])))))⟩
theorem qU0 (cs:List (List wY)) (caps:List Int) (n:Int):(dQ cs caps n).1.list.length<2^40:=by
 unfold dQ
 split
 ·rename_i h
  simp only [Bool.and_eq_true,Bool.not_eq_true',decide_eq_false_iff_not] at h
  obtain ⟨_,_,_,_,_,h3⟩:=kJ h.1
  rw [qN] at h3
  unfold fW
  split
  ·rename_i hh
   simp only [Bool.and_eq_true,qN] at hh
   simp only [sQ]
   omega
  ·simp [cO]
 ·simp [cO]
theorem qHa (p:wM) (m:qO) (s:wH) (n:Int) (hp:bF p) (hm:iQ m) (hs:qAt s):qW Tryz.prog num 420 [.agg (jF .bw p),.agg (qR .bw m),.agg (vW .bw s),.int .i64 n] [] (.bool (zW p m s n)):=by
 have h1:=hp.caps
 have h2:=hs.chs
 have w1:IntKind.i64.wrap ((p.caps.length:Int)-1)=p.caps.length-1:=wJ (by omega) (by omega)
 refine EN m420 Tryz.func55 ?_
 unfold m420
 simp only [go_sem,seval,w1]
 refine CA [] (yE n 0 (p.caps.length-1)) ?_
 try simp only [go_sem,seval]
 cases hw:qP n 0 (p.caps.length-1)
 ·try simp only [go_sem,seval,hw]
  refine fz ?_; simp [qZ,qU,qV,qQ,-List.drop_one]
  all_goals simp [zW,hw]
 have hw':=qN.1 hw
 by_cases hn:(s.chs.length:Int)≤n
 ·try simp only [go_sem,seval,hw,hn]
  refine fz ?_; simp [qZ,qU,qV,qQ,-List.drop_one]
  all_goals simp [zW,show¬n<s.chs.length by omega]
 have hn':n<s.chs.length:=by omega
 obtain ⟨i,rfl⟩:=Int.eq_ofNat_of_zero_le hw'.1
 have hi:i<s.chs.length:=by omega
 have hcg:=dA .bw s.chs i hi
 have hres:zW p m s i=(aB m.mem.cells p.caps i||((dQ m.mem.cells p.caps i).2&&decide ((dQ m.mem.cells p.caps i).1.cap=(s.chs.getD i default).cap)&&decide ((dQ m.mem.cells p.caps i).1.list=(s.chs.getD i default).list)&&decide ((dQ m.mem.cells p.caps i).1.closed=(s.chs.getD i default).closed))):=by
  unfold zW
  rw [hw,decide_eq_true hn',Int.toNat_natCast]
  rfl
 rw [hres]
 clear hres
 have hlk:=oX m.mem.cells p.caps i hm.mem h1
 have hci:=oY m.mem.cells p.caps i hm.mem h1
 have hcl:=qU0 m.mem.cells p.caps i
 try simp only [go_sem,seval,hw,hn,hcg]
 refine CA [] (hlk) ?_
 try simp only [go_sem,seval]
 generalize hL:aB m.mem.cells p.caps i=L
 cases L
 ·try simp only [go_sem,seval,hL]
  refine CA [] (hci) ?_
  try simp only [go_sem,seval]
  repeat refine K ?_
  generalize dQ m.mem.cells p.caps i=q at *
  obtain ⟨c,b⟩:=q
  generalize s.chs.getD i default=d at *
  simp only at hcl⊢
  cases b
  ·try simp only [go_sem,seval,hcg]
   refine fz ?_; simp [qZ,qU,qV,qQ,-List.drop_one]
  by_cases hc1:c.cap=d.cap
  case neg =>
   try simp only [go_sem,seval,hc1,hcg]
   refine fz ?_; simp [qZ,qU,qV,qQ,-List.drop_one]
   all_goals simp [hc1]
  try simp only [go_sem,seval,hc1,hcg]
  refine CA [] (iD c.list d.list (by omega)) ?_
  try simp only [go_sem,seval]
  by_cases hc2:c.list=d.list
  case neg =>
   try simp only [go_sem,seval,hc2]
   refine fz ?_; simp [qZ,qU,qV,qQ,-List.drop_one]
   all_goals simp [hc2]
  try simp only [go_sem,seval,hc2,hcg]
  refine fz ?_; simp [qZ,qU,qV,qQ,-List.drop_one]
  all_goals (cases c.closed<;>cases d.closed<;>simp [hc1,hc2])
 ·try simp only [go_sem,seval,hL]
  refine fz ?_; simp [qZ,qU,qV,qQ,-List.drop_one]
theorem oA (p:wM) (m:qO) (s:wH) (hp:bF p) (hm:iQ m) (hs:qAt s):qW Tryz.prog num 395 [.agg (jF .bw p),.agg (qR .bw m),.agg (vW .bw s)] [] (.bool (same p m s)):=by
 have h1:=hp.caps
 have h2:=hp.bods
 have h3:=hp.body'
 have h4:=hm.cores
 have h5:=hm.tr
 refine EN m395 Tryz.func23 ?_
 unfold m395
 simp only [go_sem,seval]
 refine CA [] (fN p (by omega) (by omega) h3) ?_
 try simp only [go_sem,seval]
 cases k1:vF p
 ·try simp only [go_sem,seval,k1]
  refine fz ?_; simp [qZ,qU,qV,qQ,-List.drop_one]
  all_goals simp [same,k1]
 try simp only [go_sem,seval,k1]
 refine CA [] (cQ m hm) ?_
 try simp only [go_sem,seval]
 cases k2:wP m
 ·try simp only [go_sem,seval,k2]
  refine fz ?_; simp [qZ,qU,qV,qQ,-List.drop_one]
  all_goals simp [same,k2]
 try simp only [go_sem,seval,k2]
 refine CA [] (lP p s hp hs) ?_
 try simp only [go_sem,seval]
 cases k3:wX p s
 ·try simp only [go_sem,seval,k3]
  refine fz ?_; simp [qZ,qU,qV,qQ,-List.drop_one]
  all_goals simp [same,k3]
 by_cases k5:(m.cores.length:Int)=s.ths.length
 case neg =>
  try simp only [go_sem,seval,k3,k5]
  refine fz ?_; simp [qZ,qU,qV,qQ,-List.drop_one]
  all_goals simp [same,show¬m.cores.length=s.ths.length by omega]
 try simp only [go_sem,seval,k3,k5]
 refine CA [] (qBr m.tr s.tr (by omega)) ?_
 try simp only [go_sem,seval]
 by_cases k4:m.tr=s.tr
 case neg =>
  try simp only [go_sem,seval,k4]
  refine fz ?_; simp [qZ,qU,qV,qQ,-List.drop_one]
  all_goals simp [same,k4]
 try simp only [go_sem,seval,k4]
 refine qX (ι:=Nat) (fun i=>.mk [(3,.ptr 10 0 0),(4,.ptr 11 0 0),(5,.ptr 12 0 0),(42,.int .i64 m.cores.length),(43,.int .i64 i)] [(10,2,[jF .bw p]),(11,4,[qR .bw m]),(12,3,[vW .bw s])] 13) (fun i=>i≤m.cores.length∧(List.range i).all (fun j=>dP p m s j)=true) (fun i=>m.cores.length-i) 0 (by simp) ?_ ?_
 ·refine Sub.shape [] id (by omega) ?_ ?_ ?_ ?_<;>simp [qK]
  all_goals simp [k4,k5]
 ·rintro i ⟨hi,hq⟩
  simp only [go_sem,seval]
  refine qL (fun hc=>?_) (fun hc=>?_)
  ·simp only [decide_eq_true_eq] at hc
   have hil:i<m.cores.length:=by omega
   simp only [go_sem,seval]
   refine CA [] (qH9 p m s i hp hm hs) ?_
   try simp only [go_sem,seval]
   cases hcs:dP p m s i
   ·try simp only [go_sem,seval,hcs]
    refine fz ?_; simp [qZ,qU,qV,qQ,-List.drop_one]
    have:(List.range m.cores.length).all (fun j=>dP p m s j)=false:=dV (P:=fun j=>dP p m s j) hil hcs
    simp [same,this]
   ·try simp only [go_sem,seval,hcs,qS (i:=i) (by omega)]
    refine qT (i+1) (Sub.shape [] id (by omega) ?_ ?_ ?_ ?_) ?_ ?_
    any_goals (first | omega | (simp [qK]; done))
    exact ⟨hil,eB (P:=fun j=>dP p m s j) hq hcs⟩
  ·simp only [decide_eq_false_iff_not] at hc
   have hall:(List.range m.cores.length).all (fun j=>dP p m s j)=true:=pI (P:=fun j=>dP p m s j) hq hc hi
   simp only [go_sem,seval]
   refine qX (ι:=Nat) (fun i=>.mk [(3,.ptr 10 0 0),(4,.ptr 11 0 0),(5,.ptr 12 0 0),(55,.int .i64 p.caps.length),(56,.int .i64 i)] [(10,2,[jF .bw p]),(11,4,[qR .bw m]),(12,3,[vW .bw s])] 13) (fun i=>i≤p.caps.length∧(List.range i).all (fun j=>zW p m s j)=true) (fun i=>p.caps.length-i) 0 (by simp) ?_ ?_
   ·refine Sub.shape [] id (by omega) ?_ ?_ ?_ ?_<;>simp [qK]
   ·clear hc hq hi
    clear i
    rintro i ⟨hi,hq⟩
    simp only [go_sem,seval]
    refine qL (fun hc=>?_) (fun hc=>?_)
    ·simp only [decide_eq_true_eq] at hc
     have hil:i<p.caps.length:=by omega
     simp only [go_sem,seval]
     refine CA [] (qHa p m s i hp hm hs) ?_
     try simp only [go_sem,seval]
     cases hcs:zW p m s i
     ·try simp only [go_sem,seval,hcs]
      refine fz ?_; simp [qZ,qU,qV,qQ,-List.drop_one]
      have:(List.range p.caps.length).all (fun j=>zW p m s j)=false:=dV (P:=fun j=>zW p m s j) hil hcs
      simp [same,this]
     ·try simp only [go_sem,seval,hcs,qS (i:=i) (by omega)]
      refine qT (i+1) (Sub.shape [] id (by omega) ?_ ?_ ?_ ?_) ?_ ?_
      any_goals (first | omega | (simp [qK]; done))
      exact ⟨hil,eB (P:=fun j=>zW p m s j) hq hcs⟩
    ·simp only [decide_eq_false_iff_not] at hc
     have hall2:(List.range p.caps.length).all (fun j=>zW p m s j)=true:=pI (P:=fun j=>zW p m s j) hq hc hi
     have e5:m.cores.length=s.ths.length:=by omega
     simp only [go_sem,seval]
     refine fz ?_; simp [qZ,qU,qV,qQ,-List.drop_one]
     unfold same
     rw [k1,k2,k3,hall,hall2,decide_eq_true k4,decide_eq_true e5]
     rfl
def qA6 (p:wM) (o:List Int):wH×List Int:=eL p (jY p).1 o
def wAw (c:List Int):Bool:=c.all fun x=>decide (x=0)||decide (x=4)
theorem qUy (p:wM) :∀(l:List Int) (s:wH) (c:List Int),l.foldl (xY p) (s,c)=(qO7 p s l,c++oT p s l)
 | [],s,c=>by simp [qO7,oT]
 | x::l,s,c=>by
  simp only [List.foldl_cons,xY,qO7,oT]
  rw [qUy p l]
  simp
theorem qBp (p:wM) :∀(l:List Int) (s:wH),(oT p s l).length=l.length
 | [],_=>rfl
 | x::l,s=>by simp only [oT,List.length_cons,qBp p l]
theorem qHe {p:wM} {l:List vD} (h:(wQ p l).2.2=true):Inv p (wQ p l).2.1 (qA6 p (wQ p l).1).1∧wAw (qA6 p (wQ p l).1).2=true∧(qA6 p (wQ p l).1).2.length=(wQ p l).1.length:=by
 obtain ⟨h1,h2,h3,h4,h5,h6⟩:=fK h
 have hz:=(fZ p l).1
 have hI:=Inv.launch h4
 obtain ⟨g1,g2⟩:=hI.run l
 have hj:qA6 p (wQ p l).1=(qO7 p (jY p).1 (wQ p l).1,oT p (jY p).1 (wQ p l).1):=by
  unfold qA6 eL
  rw [eA h1,decide_eq_true (show ((wQ p l).1.length:Int)≤4000 by omega)]
  show (wQ p l).1.foldl (xY p) ((jY p).1,[])=_
  rw [qUy]
  rfl
 rw [hj]
 have e1:(wQ p l).1=vH p (launch p).1 l:=by rw [h5]
 have e2:(wQ p l).2.1=aV (launch p).1 l:=by rw [h5]
 rw [e1,e2]
 refine ⟨g1,?_,qBp p _ _⟩
 unfold wAw
 rw [List.all_eq_true]
 intro c hc
 rcases g2 c hc with rfl | rfl<;>rfl
theorem qN1 :∀(l:List vD) {m:qO} (k:Nat),wP m=true→qBi m (l.length+k)→qBi (aV m l) k
 | [],m,k,_,h=>by rw [List.length_nil,Nat.zero_add] at h; exact h
 | x::l,m,k,hM,h=>by
  unfold aV
  exact qN1 l k (aA x hM) (qBi.step (n:=l.length+k) (by rw [show l.length+k+1=(x::l).length+k by simp; omega]; exact h) ((yO m).1 hM) x)
theorem qQy {p:wM} (h:(launch p).2=true):qBi (launch p).1 3999:=by
 intro c hc
 have hcs:(launch p).1.mem.cells=qFj:=by
  unfold launch at h⊢
  split
  ·rename_i h2
   rw [if_pos h2] at h
   unfold dK at h⊢
   split
   ·rfl
   ·rename_i h3
    rw [if_neg h3] at h
    exact absurd h (by simp)
  ·rename_i h2
   rw [if_neg h2] at h
   exact absurd h (by simp)
 rw [hcs,qDm hc]
 exact Nat.le_refl _
theorem qPs {p:wM} {l:List vD} (h:(wQ p l).2.2=true) (hl:l.length≤3800):qBi (wQ p l).2.1 160:=by
 obtain ⟨h1,h2,h3,h4,h5,h6⟩:=fK h
 have hr:=qN1 l 160 (cP h4).2.2.2 ((qQy h4).le (by omega))
 rw [h5]
 exact hr
end Go.Sep
