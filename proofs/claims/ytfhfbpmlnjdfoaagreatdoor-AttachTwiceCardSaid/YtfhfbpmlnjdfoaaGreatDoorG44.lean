/- A device that -/
import Derived.Test.YtfhfbpmlnjdfoaaGreatDoorG43
import Derived.Test.YtfhfbpmlnjdfoaaGreatDoorG40
set_option maxRecDepth 100000
set_option maxHeartbeats 1000000
namespace Go.Proofs.YtfhfbpmlnjdfoaaGreatDoor
open Go Go.RowKit Tryz
theorem Sz{l:List Bk}{s:Nat}{x:Bk}(h:l[s]?=some x):l.getD s zB=x:=by rw[qyh,h];rfl
theorem XI(A:List Bk):∀k s,(flushF A (zW k))[s]?=if 1<=s/\s<=k/\s<A.length then some zB else A[s]?
 |0,s=>by rw[if_neg (by omega)];rfl
 |k+1,s=>by
  rw[VA,xz,qyt,XI A k s,zC];by_cases h:k+1=s
  .subst h;rw[if_pos rfl];by_cases hl:k+1<A.length
   .rw [if_pos hl,if_pos (by omega)]
   .rw [if_neg hl,if_neg (by omega),qyo (by omega)]
  .rw [if_neg h];by_cases h1:1<=s/\s<=k/\s<A.length
   .rw [if_pos h1,if_pos (by omega)]
   .rw [if_neg h1,if_neg (by omega)]
def pb0':Bk:=(pagesB 0 []).getD 0 zB
theorem Yi(i:Nat)(h:1<=i):(pagesB 0 []).getD i zB=zB:=by
 rw[qyh,qyo (by rw[pagesB,xf];exact h)];rfl
theorem Yj{n:CaN}{F:List Bk}{O:List (Nat×Bk)}(hok:n.Ok)(hF:F.length=n.size)(s:Nat)(hs:s<n.size):
  curB (fmtF n F O) [] s=if s=0 then n.sec else if s=1 then pb0' else if s<n.s0 then zB else curB F O s:=by
 have hz:=n.s0_size;have hp1:1<=n.pa:=by have:=hok.p1;omega
 have hs0:1+2*n.pa<=n.s0:=by unfold CaN.s0;omega
 have h1:(fmt1 F O)=(flushF F O).set 0 zB:=xz _ _ _;have hl1:=uv F O;have e:(fmtF n F O)[s]?=if 0=s then(if s<n.size then some n.sec else none)else if 1<=s/\s<1+n.pa/\s<n.size then some ((pagesB 0 []).getD (s-1) zB)else if 1<=s/\s<=n.s0-1/\s<n.size then some zB else(fmt1 F O)[s]?:=by
  show(flushF (YS n F O) [(0,n.sec)])[s]?=_;rw[show flushF (YS n F O) [(0,n.sec)]=(YS n F O).set 0 n.sec from rfl,qyt,qS,hF];unfold YS;rw[qp,tm,zC,XI,hl1,hF];by_cases h0:0=s
  .subst h0;rfl
  .rw [if_neg h0,if_neg h0]
 show(flushF (fmtF n F O) []).getD s zB=_;rw[show flushF (fmtF n F O) []=fmtF n F O from rfl];refine Sz ?_;rw[e];by_cases h0:s=0
 .subst h0;rw[if_pos rfl,if_pos hs,if_pos rfl]
 rw[if_neg (fun e=>h0 e.symm),if_neg h0];by_cases h11:s=1
 .subst h11;rw[if_pos (by omega),if_pos rfl];rfl
 rw[if_neg h11];by_cases hsp:1<=s/\s<1+n.pa/\s<n.size
 .rw [if_pos hsp,Yi _ (by omega),if_pos (by omega)]
 rw[if_neg hsp];by_cases hss:s<n.s0
 .rw [if_pos hss,if_pos (by omega)]
 .rw [if_neg hss,if_neg (by omega),h1,qyt,if_neg (fun e=>h0 e.symm)];have hl:s<(flushF F O).length:=by rw[zC,hF];exact hs
  rw[qyn hl]
  congr 1
  exact(Sz (qyn hl)).symm
theorem rR{xs:List Int}(hx:xs.length=7)(h:mayS xs=true):okS (sectS xs)=true/\natsI (numsS (sectS xs))=xs:=by
 obtain⟨h0,hf⟩:=sM hx h;obtain⟨s1,s2⟩:=uW (k:=1) (by decide) (sz:=szS) (by rw[hx];rfl) h0 hf (mayS (natsI (numsS (sectS xs))));have h3:natsI (numsS (sectS xs))=xs:=s2;refine⟨?_,h3⟩;unfold okS;rw[show okGet (sectS xs) 1 szS (mayS (natsI (numsS (sectS xs))))=mayS (natsI (numsS (sectS xs)))from s1,h3];exact h
theorem SA:okR zB=false:=by kernel_rfl
theorem XJ{l:List Bk}(h:l.getD 0 zB=zB):readOk l=false:=by unfold readOk;rw[h,rl];rfl
theorem Zh{F:List Bk}{O:List (Nat×Bk)}{base n:Nat}:∀{k:Nat},(∀i,i<k->curB F O (base+i)=zB)->scanTo F O base n k=[]
 |0,_=>rfl
 |k+1,h=>by
  rw[scanTo,Zh (fun i hi=>h i (by omega)),h k (by omega)];unfold scL Xq;rw[SA];rfl
theorem VY{n:CaN}{F:List Bk}{O:List (Nat×Bk)}(hok:n.Ok)(hm:mayS n.I=true)(hF:F.length=n.size):Emp n (fmtF n F O) [] 0 0:=by
 have hz:=n.s0_size;have hp1:1<=n.pa:=by have:=hok.p1;omega
 have hsl:=hok.s1;have at0:=Yj (O:=O) hok hF 0 (by omega);rw[if_pos rfl]at at0;have hsb:=rR (xs:=n.I) rfl hm;have zat:∀s,2<=s->s<n.s0->curB (fmtF n F O) [] s=zB:=fun s h1 h2=>by rw[Yj hok hF s (by omega),if_neg (by omega),if_neg (by omega),if_pos h2]
 have hs0:n.s0=1+2*n.pa+n.jo+n.lo+n.lo+n.lo:=rfl;have r0:=wy (seq:=0) (E:=[]) (by decide) (fun x hx=>by cases hx) (by decide) (l:=secsOf (fmtF n F O) [] 1 n.pa) (by rw[yq];exact hp1) (fun i hi=>by
  rw[yq]at hi;rw[uF _ _ _ _ _ hi];by_cases h0:i=0
  .subst h0;rw[Yj hok hF 1 (by omega),if_neg (by omega),if_pos rfl];rfl
  .rw [zat _ (by omega) (by omega),Yi _ (by omega)])
 have r1:readOk (secsOf (fmtF n F O) [] (1+1*n.pa) n.pa)=false:=XJ (by rw[uF _ _ _ _ _ (by omega),zat _ (by omega) (by omega)]);refine⟨hok,(YT n F O).trans hF,?_,?_,?_,Zh (fun i hi=>zat _ (by omega) (by omega)),by omega,by decide,fun j hj=>zat _ (by omega) (by omega),qYf _⟩
 .rw [at0];exact hsb.1
 .rw [at0,show natsI (numsS n.sec)=n.I from hsb.2];rfl
 .have e0:nwS (fmtF n F O) [] 1 n.pa 1=(true,0,0,[]):=by
   rw[nwS];have e:(1+0*n.pa)=1:=by omega
   rw[e,r0.1,r0.2.1,r0.2.2];rfl
  rw[nwS,r1,e0];rfl
theorem VZ:∀(L:List (List Nat)) (s:RepS),s.g<=(L.foldl repStep s).g
 |[],_=>qXv _
 |r::L,s=>by
  refine qXx ?_ (VZ L (repStep s r));unfold repStep;split<;>exact Nat.le_max_left _ _
theorem TF{a:Nat}:∀{L:List (List Nat)},(∀r∈L,rseq r<=a)->repS L a=⟨[],a,a⟩:=by
 intro L h;unfold repS
 induction L with
 |nil=>rfl
 |cons r L ih=>
  have h1:=h r qzt;rw[List.foldl_cons,show repStep ⟨[],a,a⟩ r=⟨[],a,a⟩ by
   unfold repStep;rw[if_neg (by show¬rseq r=a+1;omega)];show(⟨[],max a (rseq r),a⟩:RepS)=_;rw[Nat.max_eq_left h1]]
  exact ih (fun x hx=>h x (qzs _ hx))
section
variable{n:CaN}{Z:Nat->Bk}{a:CaS}{E:Nat->List Ent}{R:Nat->List Int}{f0 com fp:Nat}{S:Nat->Prop}{w w':World}{b:Nat}{e:Ending}{F:List Bk}{O:List (Nat×Bk)}
theorem zbY(he:EnOut S w b F O n.jo n.pa e w'){wh sq:Nat}{v:Value}(h:e=.returned (.tuple #[.int .i64 (wh:Int),.int .i64 (sq:Int),v,.int .i64 0])):
  wh=(nwS F O 1 n.pa 2).2.1/\(nwS F O 1 n.pa 2).2.2.1<=sq:=by
 obtain⟨v',L,wh',sq',c,rfl,-,-,-,-,hx⟩:=he;simp only[Ending.returned.injEq,Value.tuple.injEq,Array.mk.injEq,List.cons.injEq,Value.int.injEq,true_and,and_true]at h;obtain⟨h1,h2,-,h4⟩:=h;rcases hx with⟨h5,-⟩|⟨-,Rs,-,-,r,hr,⟨h5,-⟩|⟨-,h5,h6,-⟩⟩
 .rw [h5]at h4;cases h4
 .rw [h5]at h4;cases h4
 .have h7:(nwS F O 1 n.pa 2).2.2.1<=r.g:=by rw[hr];exact VZ Rs ⟨[],(nwS F O 1 n.pa 2).2.2.1,(nwS F O 1 n.pa 2).2.2.1⟩
  exact⟨by omega,by omega⟩
def zcW(n:CaN)(F:List Bk)(E:Nat->List Ent)(com fp:Nat)(L:List Ent)(wh sq:Nat):Prop:=
 ∃t,L=E t/\com<=t/\t<=fp/\t<=sq/\sq<=fp/\wh<=1/\wh=(nwS F [] 1 n.pa 2).2.1/\(nwS F [] 1 n.pa 2).1=true/\(nwS F [] 1 n.pa 2).2.2.1<=sq/\∀r∈scanTo F [] n.jb n.jo n.jo,rseq r<=sq
theorem Hs.tel(h:Hs n Z a E R f0 com fp)(hok:n.Ok)(hm:mayS n.I=true)(hN:a.next<1099511627776)(hZ0:Z 0=n.sec)(hZ:∀s,n.jb+n.jo<=s->s<n.jq->Z s=zB):
  Tel n a.dF [] (zcW n a.dF E com fp):=by
 have hsb:=rR (xs:=n.I) rfl hm;have e0:curB a.dF [] 0=sectS n.I:=(h.fx 0 (.inl rfl)).trans hZ0;have c4:=h.c4;have hs0:=n.jH;refine⟨hok,h.dl,by rw[e0];exact hsb.1,by rw[e0,hsb.2];rfl,fun j hj=>?_,qYf _,fun he=>?_,fun hq=>?_⟩
 .have e:n.jb=1+2*n.pa:=rfl;exact(h.fx _ (.inr ⟨by omega,by omega⟩)).trans (hZ _ (by omega) (by omega))
 .obtain ⟨v,t,wh,sq,e1,t1,t2,t3,t4,t5,t6,t7,t8,t9,t10⟩:=h.entries hok (by omega) he;obtain⟨w1,w2⟩:=zbY he e1;obtain⟨wh0,s0,-,-,-,hnw⟩:=h.newest hok (by omega);exact⟨v,E t,wh,sq,⟨t,rfl,t1,t2,t4,t5,t3,w1,by rw[hnw],w2,t6⟩,e1,t7,t8,t9,t10⟩
 .obtain ⟨t,rfl,t1,t2,t3,t4,t5,-⟩:=hq;exact⟨h.en t (by omega),t5,by omega⟩
theorem TG{wh sq:Nat}{G:List Bk}{Q:List (Nat×Bk)}{L:List Ent}(h:EnOk n L)(hok:n.Ok):(newS n wh sq F O G Q L).ents n=dirE L L.length:=by
 obtain⟨-,-,hsm,hl,h1,-,-,-⟩:=qm (n:=n) (wh:=wh) (sq:=sq) (F:=F) (G:=G) (O:=O) (Q:=Q) h hok;have hE:=CaS.ents_enok hl.tie hsm;have hp:(dirE L L.length).Pairwise (fun x y=>x.b<y.b):=by rw[wC];exact h.2.2.filter _
 refine ql (fun x:Ent=>(x.b:Int)) (hE.2.2.imp fun h=>by omega) (hp.imp fun h=>by omega) (fun x=>?_);rw[CaS.jG hl.tie.hpl];constructor
 .rintro ⟨k,hk,h2,rfl⟩;by_cases hx:∀y∈dirE L L.length,y.b≠k
  .exact absurd ((hl.blk k hx).1.trans (xq _ _)) h2
  .have:∃y,y∈dirE L L.length/\y.b=k:=Classical.byContradiction fun hc=>hx fun y hy e=>hc ⟨y,hy,e⟩;obtain⟨y,hy,rfl⟩:=this;obtain⟨g1,g2,-⟩:=hl.got y hy;rw[g1,g2];exact hy
 .intro hx;obtain⟨g1,g2,-⟩:=hl.got x hx;refine⟨x.b,(h1 x hx).1,fun e=>?_,?_⟩
  .rw [g1]at e;have:(x.s:Int)= -1:=congrArg Prod.fst e;omega
  .rw [g1,g2];rfl
theorem Es{L:List Ent}(h:EnOk n L):EnOk n (dirE L L.length):=by
 have hsub:(dirE L L.length).Sublist L:=by rw[wC];exact List.filter_sublist
 exact⟨fun x hx=>h.1 x (hsub.subset hx),h.2.1.sublist (hsub.map _),h.2.2.sublist hsub⟩
theorem SB(L:List Ent):dirE (dirE L L.length) (dirE L L.length).length=dirE L L.length:=by rw[wC,wC,List.filter_filter];simp
theorem Zi{F':List Bk}{base m:Nat}:∀k,(∀i,i<k->curB F [] (base+i)=curB F' [] (base+i))->scanTo F [] base m k=scanTo F' [] base m k
 |0,_=>rfl
 |k+1,h=>by rw[scanTo,scanTo,Zi k (fun i hi=>h i (by omega)),h k (by omega)]
theorem TH{F':List Bk}{base m:Nat}(h:∀i,i<m->curB F [] (base+i)=curB F' [] (base+i)):secsOf F [] base m=secsOf F' [] base m:=
 List.map_congr_left fun i hi=>h i (qzx.1 hi)
theorem Et{M:List Ent}(hen:EnOk n M){c:Int}{L:List EI}{wh sq wh' sq':Nat}(hL0:∀L0,Lists (enM M) L0->¬(L0.map EI.s).Nodup->False)
  (hx:(c=12/\L=[]/\(¬((M.map Ent.toI).map EI.b).Nodup\/∃L0,Lists (enM M) L0/\¬(L0.map EI.s).Nodup))\/(c=0/\wh'=wh/\sq'=sq/\Lists (enM M) L/\(L.map EI.s).Nodup/\L.Pairwise (fun x y=>x.b<y.b))):
  c=0/\wh'=wh/\sq'=sq/\L=M.map Ent.toI:=by
 have hmL:∀e,e∈M.map Ent.toI↔enM M e.b=some e:=fun e=>by
  unfold enM;rw[qk hen.nd];exact⟨fun h=>⟨h,rfl⟩,fun h=>h.1⟩
 rcases hx with⟨-,-,hx|⟨L0,h1,h2⟩⟩|⟨h1,h2,h3,hL,-,hst⟩
 .exact absurd hen.nd hx
 .exact (hL0 L0 h1 h2).elim
 .exact ⟨h1,h2,h3,ql EI.b hst (qXf.2 (hen.2.2.imp fun h=>by show(_:Int)<_;simp only[Ent.toI];omega)) (fun x=>(hL.2 x).trans (hmL x).symm)⟩
theorem SC{M:List Ent}(hen:EnOk n M)(L0:List EI)(hL0:Lists (enM M) L0):(L0.map EI.s).Nodup:=by
 have hmL:∀e,enM M e.b=some e->e∈M.map Ent.toI:=fun e h=>by
  unfold enM at h;exact((qk hen.nd).1 h).1
 refine qXf.2 ((qXf.1 hL0.1).imp_of_mem fun{x y} hx hy hb hs=>hb ?_);obtain⟨x',hx',rfl⟩:=qzv.1 (hmL x ((hL0.2 x).1 hx));obtain⟨y',hy',rfl⟩:=qzv.1 (hmL y ((hL0.2 y).1 hy));have hs:(x'.s:Int)=(y'.s:Int):=hs;rw[xN hen.2.1 hx' hy' (by omega)]
def telF(n:CaN)(F:List Bk)(wh sq:Nat)(M:List Ent):List Bk:=flushF F (ckO (1+(1-wh)*n.pa) n.pa (pagesB (sq+1) M))
theorem qn{wh sq:Nat}{M:List Ent}(s:Nat)(hs:s<1+(1-wh)*n.pa\/1+(1-wh)*n.pa+n.pa<=s):(telF n F wh sq M).getD s zB=F.getD s zB:=by
 unfold telF;rw[wX,if_neg (by omega)]
theorem Tel.again{Q:List Ent->Nat->Nat->Prop}(hT:Tel n F [] Q){wh sq:Nat}{M:List Ent}(hen:EnOk n M)(hwh:wh<=1)(hsq:sq+2<1099511627776)(h1:wh=(nwS F [] 1 n.pa 2).2.1)(_:(nwS F [] 1 n.pa 2).1=true)(h3:(nwS F [] 1 n.pa 2).2.2.1<=sq)
  (hr:∀r∈scanTo F [] n.jb n.jo n.jo,rseq r<=sq):Tel n (telF n F wh sq M) [] (fun L wh' sq'=>L=M/\wh'=1-wh/\sq'=sq+1):=by
 have hs0:=n.jH;have hz:=n.size_eq;have hmul:=Zf n.pa hwh;have hfl:=hT.fl;have hat:=fun s hs=>qn (n:=n) (F:=F) (wh:=wh) (sq:=sq) (M:=M) s hs;have hlen:(telF n F wh sq M).length=n.size:=(zC _ _).trans hfl;obtain⟨p1,p2,p3⟩:=hen.need hT.ok;have e0:curB (telF n F wh sq M) [] 0=curB F [] 0:=hat 0 (by omega);have hnew:readOk (secsOf (telF n F wh sq M) [] (1+(1-wh)*n.pa) n.pa)=true/\readSeq (secsOf (telF n F wh sq M) [] (1+(1-wh)*n.pa) n.pa)=sq+1/\readEs (secsOf (telF n F wh sq M) [] (1+(1-wh)*n.pa) n.pa)=M:=by
  refine wy (by omega) p3 p2 (by rw[yq];exact p1) (fun i hi=>?_);rw[yq]at hi;rw[uF _ _ _ _ _ hi];show(telF n F wh sq M).getD (1+(1-wh)*n.pa+i) zB=_;unfold telF;rw[wX,if_pos (by omega)]
  congr 1
  omega
 have hold:secsOf (telF n F wh sq M) [] (1+wh*n.pa) n.pa=secsOf F [] (1+wh*n.pa) n.pa:=TH fun i hi=>hat _ (by omega);have hnw:nwS (telF n F wh sq M) [] 1 n.pa 2=(true,1-wh,sq+1,M):=by
  obtain⟨r1,r2,r3⟩:=hnew;rcases(show wh=0\/wh=1 by omega)with e|e
  .rw [e]at r1 r2 r3 hold;simp only[Nat.sub_zero]at r1 r2 r3;have hle:(nwS (telF n F wh sq M) [] 1 n.pa 1).2.2.1<=sq:=by
    rw[e];have e1:nwS (telF n F 0 sq M) [] 1 n.pa 1=nwS F [] 1 n.pa 1:=by rw[nwS,nwS,hold];rfl
    rw[e1];rw[nwS]at h1 h3;split at h1
    .next hc=>
     rw[e]at h1;cases h1
    .next hc=>
     rw[if_neg hc]at h3;exact h3
   rw[e]at hle⊢;rw[nwS,r1,r2,r3,if_pos (by simp;right;omega)]
  .rw [e]at r1 r2 r3 hold;simp only[Nat.sub_self]at r1 r2 r3;have e1:nwS (telF n F 1 sq M) [] 1 n.pa 1=(true,0,sq+1,M):=by rw[nwS,r1,r2,r3];rfl
   have hs:readSeq (secsOf F [] (1+1*n.pa) n.pa)<=sq:=by
    rw[nwS]at h1 h3;split at h1
    .next hc=>
     rw[if_pos hc]at h3;exact h3
    .next hc=>
     rw[e]at h1;rw[nwS]at h1;split at h1<;>cases h1
   rw[e,nwS,e1,hold,if_neg (fun hc=>by
    rw[qxo]at hc;have h5:(!true||decide (sq+1<readSeq (secsOf F [] (1+1*n.pa) n.pa)))=true:=hc.2;rw[Bool.not_true,Bool.false_or,qYz]at h5;omega)]
 have hjb:n.jb=1+2*n.pa:=rfl;have hsc:scanTo (telF n F wh sq M) [] n.jb n.jo n.jo=scanTo F [] n.jb n.jo n.jo:=Zi _ fun i hi=>hat _ (by omega);refine⟨hT.ok,hlen,by rw[e0];exact hT.su,by rw[e0];exact hT.ns,fun j hj=>(hat _ (by omega)).trans (hT.zs j hj),qYf _,fun he=>?_,fun hq=>?_⟩
 .obtain ⟨v,L,wh',sq',c,rfl,hsl,hfr,hd,hu,hx⟩:=he;rw[hnw]at hx;rcases hx with⟨-,-,hx⟩|⟨-,Rs,hp,-,r,hrr,hx⟩
  .cases hx
  have hri:repS Rs (sq+1)=⟨[],sq+1,sq+1⟩:=TF fun x hx=>by
   have h:=hp.mem_iff.1 hx;rw[show 1+2*n.pa=n.jb from rfl,hsc]at h;have:=hr x h;omega
  dsimp only at hrr hx;rw[hri]at hrr;subst hrr;obtain⟨rfl,rfl,rfl,rfl⟩:=Et hen (fun L0 h1 h2=>h2 (SC hen L0 h1)) hx;rw[qzg,rp]at hsl;exact⟨v,M,1-wh,sq+1,⟨rfl,rfl,rfl⟩,rfl,hsl,hfr,hd,hu⟩
 .obtain ⟨rfl,rfl,rfl⟩:=hq;exact⟨hen,by omega,by omega⟩
end
def wY(n:CaN)(wh sq:Nat)(F G:List Bk)(L:List Ent):CaS:=((newS n wh sq F [] G [] L).ckpt n).1
section
variable{n:CaN}{wh sq:Nat}{F G:List Bk}{L:List Ent}
theorem rS(h:EnOk n L)(hok:n.Ok):(wY n wh sq F G L).dF=telF n F wh sq (dirE L L.length)/\(wY n wh sq F G L).dO=[]/\(wY n wh sq F G L).dP=[]/\(wY n wh sq F G L).bF=G/\(wY n wh sq F G L).bO=[]/\(wY n wh sq F G L).bP=[]/\
  (wY n wh sq F G L).ps=(newS n wh sq F [] G [] L).ps/\(wY n wh sq F G L).sums=(newS n wh sq F [] G [] L).sums:=by
 obtain⟨⟨e1,e2,e3⟩,-,-,hl,-⟩:=qm (n:=n) (wh:=wh) (sq:=sq) (F:=F) (G:=G) (O:=[]) (Q:=[]) h hok;obtain⟨e4,-,-,-,e5,e6,e7,-,e8,-⟩:=hl.oth;have hE:=TG (wh:=wh) (sq:=sq) (F:=F) (O:=[]) (G:=G) (Q:=[]) h hok;unfold wY;rw[CaS.NoP.ckpt_eq ⟨e3,e7⟩,hE];have e8:(newS n wh sq F [] G [] L).next=sq+1+1:=e8;have e4:(newS n wh sq F [] G [] L).which=wh:=e4;have e5:(newS n wh sq F [] G [] L).bF=G:=e5;have e6:(newS n wh sq F [] G [] L).bO=[]:=e6;refine⟨?_,rfl,rfl,?_,rfl,rfl,rfl,rfl⟩
 .show flushF (flushF (newS n wh sq F [] G [] L).dF (newS n wh sq F [] G [] L).dO) (ckO (1+(1-(newS n wh sq F [] G [] L).which)*n.pa) n.pa (pagesB ((newS n wh sq F [] G [] L).next-1) _))=_;rw[e1,e2,e4,e8];rfl
 .show flushF (newS n wh sq F [] G [] L).bF (newS n wh sq F [] G [] L).bO=G;rw[e5,e6];rfl
theorem XK(h:EnOk n L)(hok:n.Ok):(wY n wh sq F G L).ps.length=n.bl/\(∀x∈dirE L L.length,plc (wY n wh sq F G L).ps x.b=((x.s:Int),x.d)/\(wY n wh sq F G L).sums (x.b:Int)=some x.m)/\
  ∀k:Nat,(∀x∈dirE L L.length,x.b≠k)->plc (wY n wh sq F G L).ps k=(-1,false):=by
 obtain⟨-,-,-,hl,-⟩:=qm (n:=n) (wh:=wh) (sq:=sq) (F:=F) (G:=G) (O:=[]) (Q:=[]) h hok;obtain⟨-,-,-,-,-,-,e1,e2⟩:=rS (wh:=wh) (sq:=sq) (F:=F) (G:=G) h hok;rw[e1,e2];exact⟨hl.tie.hpl,fun x hx=>⟨(hl.got x hx).1,(hl.got x hx).2.1⟩,fun k hk=>(hl.blk k hk).1.trans (xq _ _)⟩
end
section
variable{n:CaN}{a b:CaS}{M:List Ent}
theorem WZ(dp:a.dP=[]/\a.bP=[]/\b.dP=[]/\b.bP=[])(hd:a.dF=b.dF/\a.dO=b.dO/\a.bF=b.bF/\a.bO=b.bO)(hM:∀x∈M,crcC (curB b.dF b.dO (n.jq+x.s))=x.m)
  (la:a.ps.length=n.bl) (lb:b.ps.length=n.bl) (pa:∀x∈M,plc a.ps x.b=((x.s:Int),x.d)/\a.sums (x.b:Int)=some x.m) (pb:∀x∈M,plc b.ps x.b=((x.s:Int),x.d)/\b.sums (x.b:Int)=some x.m)
  (qa:∀k:Nat,(∀x∈M,x.b≠k)->plc a.ps k=(-1,false)) (qb:∀k:Nat,(∀x∈M,x.b≠k)->plc b.ps k=(-1,false)) {k:Nat} (hk:k<n.bl):
  (∃y,(a.jn n (k:Int)).2=(y,0)/\(b.jn n (k:Int)).2=(y,0))/\getC a.ps (k:Int)=getC b.ps (k:Int)/\getV a.ps (k:Int)=getV b.ps (k:Int):=by
 obtain⟨d1,d2,d3,d4⟩:=dp;obtain⟨f1,f2,f3,f4⟩:=hd;have ga:∀(c:CaS),c.ps.length=n.bl->plc c.ps k=(-1,false)->getC c.ps (k:Int)=14/\getV c.ps (k:Int)=(0,false):=fun c hl h=>by
  have h:c.ps.getD k (-1,false)=(-1,false):=h;unfold getC getV;have e:¬((k:Int)<0\/(c.ps.length:Int)<=(k:Int)):=by omega
  rw[if_neg e,if_neg e,qxu,if_pos h,if_pos h];exact⟨rfl,rfl⟩
 by_cases hx:∀x∈M,x.b≠k
 .obtain ⟨a1,a2⟩:=ga a la (qa k hx);obtain⟨b1,b2⟩:=ga b lb (qb k hx);refine⟨⟨curB b.bF b.bO k,?_,?_⟩,a1.trans b1.symm,a2.trans b2.symm⟩
  .unfold CaS.jn;rw[if_pos a1,d2,f3,f4];rfl
  .unfold CaS.jn;rw[if_pos b1,d4];rfl
 .have:∃x,x∈M/\x.b=k:=Classical.byContradiction fun hc=>hx fun y hy e=>hc ⟨y,hy,e⟩;obtain⟨x,hxM,rfl⟩:=this;obtain⟨a1,a2⟩:=pa x hxM;obtain⟨b1,b2⟩:=pb x hxM;have hn:((x.s:Int),x.d)≠((-1:Int),false):=fun e=>by have:(x.s:Int)= -1:=congrArg Prod.fst e;omega
  have ca:getC a.ps (x.b:Int)=0:=zR.2 ⟨x.b,by omega,rfl,by rw[a1];exact hn⟩;have cb:getC b.ps (x.b:Int)=0:=zR.2 ⟨x.b,by omega,rfl,by rw[b1];exact hn⟩;have va:=(yK (ps:=a.ps) (m:=x.b) (by omega) (by rw[a1];exact hn)).trans a1;have vb:=(yK (ps:=b.ps) (m:=x.b) (by omega) (by rw[b1];exact hn)).trans b1;have hc:=hM x hxM;have n0:fate ([]:List Int)≠1:=by decide
  refine⟨⟨curB b.dF b.dO (n.jq+x.s),?_,?_⟩,ca.trans cb.symm,va.trans vb.symm⟩
  .unfold CaS.jn;rw[if_neg (by rw[ca];decide),if_neg (by rw[ca];decide),va];unfold CaS.readS;rw[d1,if_neg n0,qxu,a2,f1,f2,if_pos (show crcC (curB b.dF b.dO (n.jq+x.s))=(some x.m).getD 0 from hc)]
  .unfold CaS.jn;rw[if_neg (by rw[cb];decide),if_neg (by rw[cb];decide),vb];unfold CaS.readS;rw[d3,if_neg n0,qxu,b2,if_pos (show crcC (curB b.dF b.dO (n.jq+x.s))=(some x.m).getD 0 from hc)]
end
theorem tR{own:Nat->Nat}{w:World}{c:Nat}{n:CaN}{p:CaP}{a:CaS}(h:CaAt own w c n p a)(hP:a.NoP){k:Int}{y:Bk}(hr:(a.jn n k).2=(y,0)):
  Calls prog 45 #[ptr c,.int .i64 k] w fun e w'=>e=.returned (.tuple #[.agg (bkC y).toArray,.int .i64 0])/\y.length=64/\∃o',CaAt o' w' c n p a/\Did own o' w w':=by
 have q:=Ya h k;rw[hr,TA hP]at q;refine q.mono fun e w' ⟨z,cd,h1,h2,h3,h4,h5⟩=>?_;subst h1;subst h2;exact⟨h4,h3,h5⟩
theorem lists_nil{L:List EI}(h:Lists (fun _=>none) L):L=[]:=by
 rw[List.eq_nil_iff_forall_not_mem];intro x hx;exact nomatch (h.2 x).1 hx
theorem Emp.tel{n:CaN}{F:List Bk}{O:List (Nat×Bk)}{wh sq:Nat}(hE:Emp n F O wh sq):Tel n F O (fun L wh' sq'=>L=[]/\wh'=wh/\sq'=sq):=by
 refine⟨hE.ok,hE.fl,hE.su,hE.ns,hE.zs,hE.o5,fun he=>?_,fun hq=>?_⟩
 .obtain ⟨v,L,wh',sq',c,rfl,hsl,hfr,hd,hu,h⟩:=he;rw[hE.nw,hE.js]at h;rcases h with ⟨-,-,h⟩|⟨-,R,hp,-,r,hr,h⟩
  .cases h
  .have hR:R=[]:=List.Perm.eq_nil hp
   subst hR;have hd0:r.d=[]:=by rw[hr];rfl
   have hg0:r.g=sq:=by rw[hr];rfl
   rw[hd0]at h;have hap:∀L0,Lists (apRs (apM (([]:List Ent).map Ent.toI)) (([]:List (List Nat)).map natsI)) L0->L0=[]:=fun L0 h=>lists_nil h
   rcases h with ⟨-,-,h|⟨L0,h1,h2⟩⟩|⟨hc,hw,hs,h,-⟩
   .exact absurd List.nodup_nil h
   .rw [hap L0 h1]at h2;exact absurd List.nodup_nil h2
   .have hL:=hap L h
    subst hL;exact⟨v,[],wh,sq,⟨rfl,rfl,rfl⟩,by rw[hc,hw,hs,hg0],hsl,hfr,hd,hu⟩
 .obtain ⟨rfl,rfl,rfl⟩:=hq;exact⟨⟨fun x hx=>(by cases hx),List.nodup_nil,List.Pairwise.nil⟩,hE.wh1,hE.sq1⟩
theorem tS{own:Nat->Nat}{w:World}{ssd back:Nat}{F G:List Bk}{O Q:List (Nat×Bk)}{n:CaN}{wh sq:Nat}(hD:Dvs own w ssd back F O G Q [])(hE:Emp n F O wh sq)(hG:G.length=n.bl):
  Calls prog 23 #[ptr ssd,ptr back] w (EP own w ssd back n ((caS0 n wh (sq+1) F O [] G Q []).ckpt n).1):=
 (rQ hD hE.tel hG).mono fun e w' ⟨L,wh',sq',⟨h1,h2,h3⟩,h4⟩=>by
  subst h1;subst h2;subst h3;exact h4
def attS(n:CaN):CaS:=((caS0 n 0 (0+1) (fmtF n (List.replicate n.size zB) []) [] [] (List.replicate n.bl zB) [] []).ckpt n).1
theorem Zj(n:CaN)(a:CaS)(hps:a.ps=List.replicate n.bl (-1,false)):a.ents n=[]:=by
 rw[List.eq_nil_iff_forall_not_mem];intro x hx;obtain⟨k,-,hn,-⟩:=(CaS.jG (by rw[hps];exact qzi)).1 hx;rw[hps]at hn;refine hn ?_;rw[plc,qyh,qys];split<;>rfl
theorem yk(n:CaN):attS n={caS0 n 0 1 (fmtF n (List.replicate n.size zB) []) [] [] (List.replicate n.bl zB) [] []with dF:=flushF (fmtF n (List.replicate n.size zB) []) (ckO (1+n.pa) n.pa (pagesB 1 [])),which:=1,st:=freeTo (List.replicate n.sl 0) (pos (List.replicate n.sl 0) 3)}:=by
 unfold attS;rw[CaS.NoP.ckpt_eq ⟨rfl,rfl⟩];have he:=Zj n (caS0 n 0 (0+1) (fmtF n (List.replicate n.size zB) []) [] [] (List.replicate n.bl zB) [] []) rfl;rw[he];simp only[caS0,Nat.sub_zero,Nat.one_mul,qYe];rfl
theorem Eu(n:CaN):(attS n).Gd n 3:=by
 rw[yk];refine⟨RT n,⟨fun k v h=>(by cases h),fun q h=>(by cases h),?_,?_,?_,?_,?_,?_⟩,qYf _,qYf _⟩
 .show (2:Nat)<=3;decide
 .show (0:Nat)<=3;decide
 .show (0:Nat)<=3;decide
 .show (0:Nat)<=3;decide
 .show (0:Nat)<=3;decide
 .show (0:Nat)<=3;decide
theorem Ev(n:CaN)(hok:n.Ok):∃Z:Nat->Bk,(attS n).Hi n Z/\Z 0=n.sec/\∀s,n.jb+n.jo<=s->s<n.jq->Z s=zB:=by
 have hps:(attS n).ps=List.replicate n.bl (-1,false):=by rw[yk];rfl
 have hen:=Zj n (attS n) hps;have hF0:(List.replicate n.size zB).length=n.size:=qzi;have hz:=n.s0_size;have hs0:n.s0=1+2*n.pa+n.jo+n.lo+n.lo+n.lo:=rfl;have hsl0:=n.jH;have hp1:1<=n.pa:=by have:=hok.p1;omega
 have hA:=Yj (O:=[]) hok hF0;have hlF:(fmtF n (List.replicate n.size zB) []).length=n.size:=(YT n _ _).trans hF0;have hF:(attS n).dF=flushF (fmtF n (List.replicate n.size zB) []) (ckO (1+n.pa) n.pa (pagesB 1 [])):=by rw[yk]
 have hget:∀s,s<n.size->(s<1+n.pa\/1+n.pa+n.pa<=s)->(attS n).dF.getD s zB=if s=0 then n.sec else if s=1 then pb0' else if s<n.s0 then zB else curB (List.replicate n.size zB) [] s:=fun s h1 h2=>by
  rw[hF,wX,if_neg (by omega)];exact hA s h1
 have hj2:=hok.j1;refine⟨fun s=>(attS n).dF.getD s zB,Hs.hi (E:=fun _=>[]) (R:=fun _=>[]) (f0:=1) (com:=1) (fp:=1) ?_,?_,fun s h1 h2=>?_⟩
 .refine {
   pl:=by rw[yk];exact fun x hx=>by cases hx
   dl:=by rw[hF,zC];exact hlF
   f1:=by rw[yk];exact qXv 1
   c1:=by rw[yk];exact qXv 1
   c2:=by rw[yk];rfl
   c3:=qXv _
   c4:=by rw[yk];exact qXv 2
   c5:=by rw[yk];show 2<=1+n.jo+1;omega
   wh:=by rw[yk];exact qXv 1
   wq:=by rw[yk];exact fun i hi=>absurd hi (Nat.not_lt_zero _)
   rc:=by rw[yk];exact fun t h1 h2=>absurd h2 (by show¬t<2;omega)
   en:=fun t _=>⟨fun x hx=>(by cases hx),qXc,List.Pairwise.nil⟩
   cur:=hen.symm
   fx:=fun s _=>rfl
   o0:=by rw[yk];exact fun q hq=>by cases hq
   sd:=fun i hi=>?_
   so:=fun i hi=>?_
   jr:=fun j hj=> .inl ?_
   jw:=by rw[yk];exact fun t h1 h2=>absurd h1 (by show¬1<t;omega)
   sl:=fun t _ _ x hx=>by cases hx
   sf:=fun t _ _ x hx=>by cases hx}
  .have e:(attS n).which=1:=by rw[yk]
   have ec:(attS n).cov=1:=by rw[yk];rfl
   rw[e,ec,hF,wX,if_pos (by omega)]
   congr 1
   omega
  .have e:(attS n).which=1:=by rw[yk]
   rw[e,hget _ (by omega) (by omega),if_neg (by omega)];have:(if 1+(1-1)*n.pa+i=1 then pb0' else if 1+(1-1)*n.pa+i<n.s0 then zB else curB (List.replicate n.size zB) [] (1+(1-1)*n.pa+i))=(pagesB 0 []).getD i zB:=by
    by_cases h0:i=0
    .subst h0;rw[if_pos (by omega)];rfl
    .rw [if_neg (by omega),if_pos (by omega),Yi _ (by omega)]
   rw[this];exact tp (E:=fun _=>[]) (s:=0) (by decide) i
  .simp only[CaN.jb];rw[hget _ (by omega) (by omega),if_neg (by omega),if_neg (by omega),if_pos (by omega)]
 .exact (hget 0 (by omega) (by omega)).trans (if_pos rfl)
 .simp only[CaN.jb]at h1;show(attS n).dF.getD s zB=zB;rw[hget s (by omega) (by omega),if_neg (by omega),if_neg (by omega),if_pos (by omega)]
def Ew(w:World)(n:CaN)(e:Ending)(w':World):Prop:=
 ∃own ssd back,e=.returned (.tuple #[ptr ssd,ptr back])/\Dvs own w' ssd back (List.replicate n.size zB) [] (List.replicate n.bl zB) [] []/\Below w.heap.size w w'/\∀j,j<w.heap.size->own j=0
theorem Ua(n:CaN)(id:Int)(hok:n.Ok)(w:World)(nib:Nib w)(tur:Tur w):Calls prog 17 #[.agg (superC id n.bl n.sl n.jo n.pa n.lo n.ba).toArray] w (Ew w n):=by
 obtain⟨U,hU⟩:=qqe (superC id n.bl n.sl n.jo n.pa n.lo n.ba);obtain⟨V,hV⟩:=qqe (layC n.sl n.jo n.pa n.lo);obtain⟨w1,hw1⟩:=qqe (w.alloc (.cells U.toArray 40));have hg1:=qqg hw1;have hu1:=qqu hw1;have hrU:w1.rangeAt w.heap.size 0 U:=zh hg1;have hsU:(prog.info? 40).map (·.size)=some U.length:=by rw[hU];exact yW
 have HPl:Hid (Calls prog 14 #[.agg U.toArray] w1 fun e w'=>e=.returned (.tuple #[.agg V.toArray,.int .i64 0])/\Below w1.heap.size w1 w'):=by
  show Calls _ _ _ _ _;rw[hU,hV];obtain⟨b1,b2,s1,s2,j1,j2,l1,l2,a1,a2,p1,p2,z⟩:=hok;exact vY id n.bl n.sl n.jo n.pa n.lo n.ba b1 b2 s1 s2 j1 j2 l1 l2 a1 a2 p1 p2 z w1
 rw[<-hU];have H:=Y7 nib tur hok hU hV hg1 hu1;rw[hw1]at hrU;have HW1:=qqh hw1;have HU:=Y2 hrU hsU;clear nib tur hok hU hV hg1 hu1 hrU hsU hw1;go_enter func17,ntmps17
 go_wp2_with (first
  |(refine qZg rfl _ _ rfl _ _ rfl _ _ HU.o.1 underlying40 rfl HU.o.2 ?_)
  |fail)
 rw[<-HW1.o];refine HPl.out.mono ?_;rintro e w2 ⟨rfl,hb2⟩;obtain⟨nib,tur,hok,hU,hV,hg1,hu1⟩:=H.o;obtain⟨w3,hw3⟩:=qqe (w2.alloc (.cells V.toArray 43));have hu2:=qqb hb2;have hu3:=qqu hw3;have hg3:=qqg hw3;have hg13:=(hu2.trans hu3).jc hg1;have hU3:=(hu1.trans hu2).trans hu3;have hVl:V.length=7:=by rw[hV];rfl
 have hV1:∀v∈V,v.oneCell'=true:=by rw[hV];exact uu _ _ _ _
 have hsV:Hid ((prog.info? 43).map (·.size)=some V.length):=by show _=_;rw[hVl];exact xB
 have v6:w3.cell? ⟨w2.heap.size,6,none⟩=some (.int .i64 (n.size:Int)):=by
  rw[za hg3,hV];simp[layC,CaN.size]
 have u1:w3.cell? ⟨w.heap.size,1,none⟩=some (.int .i64 (n.bl:Int)):=by
  rw[za hg13,hU];simp[superC]
 have hz4:n.size<=4096:=hok.z;have hz1:1<=n.size:=by unfold CaN.size;omega
 have hD1:=Vc n.size hz1 hz4 w3;have H3:=Y4 hU3 hg13 v6 u1;have HV:=Y3 hVl hV1 hD1;have HW3:=qqh hw3;rw[hw3]at v6;have hlt:=zf hg13;clear nib tur hok hU hV hg1 hu1 hb2 hu2 hu3 hg3 hg13 hU3 hVl hV1 u1 hD1 hw3;go_wp2_with (first
  |(refine zk rfl _ _ _ rfl _ _ _ rfl rfl (by rw[HV.o.1];rfl) hsV.out HV.o.2.1 ?_)
  |fail)
 rw[<-HW3.o];refine HV.o.2.2.mono ?_;rintro e w4 ⟨b1,rfl,hX1,hlo1,hb4⟩;have hu4:=qqb hb4;have u1:=hu4.ja H3.o.2.2.2 (fun h=>h);obtain⟨nib,tur,hok,hU,hV,hg1,hu1⟩:=H.o;have hD2:=qqh (Vc n.bl hok.b1 hok.b2 w4);have H4:=Y2 hX1 hu4;clear hX1 hb4 hu4 nib tur hok hU hV hg1 hu1 v6 hlt;go_wp2_with fail
 refine hD2.out.mono ?_;rintro e w5 ⟨b2,rfl,hX2,hlo2,hb5⟩;have hu5:=qqb hb5;have H5:=Y2 hX2 hu5;clear hX2 hb5 hu5 u1 hD2;go_wp2
 go_ret2
 obtain⟨nib,tur,hok,hU,hV,hg1,hu1⟩:=H.o;obtain⟨hX2,hu5⟩:=H5.o;have hU5:=(H3.o.1.trans H4.o.2).trans hu5;obtain⟨own,hown⟩:∃own:Nat->Nat,own=fun j=>if w3.heap.size<=j/\j<w4.heap.size then 2 else if w4.heap.size<=j/\j<w5.heap.size then 3 else 0:=⟨_,rfl⟩
 have hs3:=H3.o.1.size;have hs4:=H4.o.2.size;have hs5:=hu5.size;have h2:Dv (fun j=>own j=2) w5 b1 (List.replicate n.size zB) [] []:=by
  have a1:Dv (fun j=>w3.heap.size<=j/\j<w4.heap.size) w4 b1 (List.replicate n.size zB) [] []:=H4.o.1.out (fun j h1 h2=>⟨h2,h1⟩);exact((a1.new hu5).out (fun j _ hj=>by rw[hown];simp[hj.1,hj.2]))
 have h3:Dv (fun j=>own j=3) w5 b2 (List.replicate n.bl zB) [] []:=hX2.out (fun j h1 h2=>by
  rw[hown];have h2':w4.heap.size<=j:=h2;simp only[];rw[if_neg (by omega),if_pos ⟨h2',h1⟩])
 have hnl:=nib.lt;have htl:=tur.lt;refine⟨own,b1,b2,rfl,⟨h2,h3,fun j hj=>?_,nib.keep hU5 (fun h=>h),tur.keep hU5 (fun h=>h),?_,?_⟩,Upd.below hU5,fun j hj=>?_⟩
 .rw [hown];simp only[];rw[if_neg (by omega),if_neg (by omega)]
 .rw [hown];simp only[];rw[if_neg (by omega),if_neg (by omega)]
 .rw [hown];simp only[];rw[if_neg (by omega),if_neg (by omega)]
 .rw [hown];simp only[];rw[if_neg (by omega),if_neg (by omega)]
def zcX(own:Nat->Nat)(w:World)(ssd back:Nat)(F:List Bk)(O:List (Nat×Bk))(G:List Bk)(Q:List (Nat×Bk))(P:List Int)(cd:Int)(e:Ending)(w':World):Prop:=
 e=.returned (.tuple #[.pointer none,.agg #[.pointer none,.pointer none,.pointer none],.slice none 0 0,.int .i64 cd])/\∃own',Dvs own' w' ssd back F O G Q P/\Did own own' w w'
theorem sy:∀w:World,(Instr.build 67 #[]).run prog w=.ok (.agg #[.pointer none,.pointer none,.pointer none]) w:=by
 intro w;kernel_rfl
theorem Va{own:Nat->Nat}{w:World}{ssd back:Nat}{F G:List Bk}{O Q:List (Nat×Bk)}{P:List Int}(hD:Dvs own w ssd back F O G Q P)(n:CaN)(hok:n.Ok)(hF:0<F.length)(hy:okS (curB F O 0)=true->dsS (natsI (numsS (curB F O 0)))=n.C)
  (cd:Int) (hR:supR n F G (curB F O 0)=(zeroS,cd)) (hcd:cd≠0):
  Calls prog 23 #[ptr ssd,ptr back] w (zcX own w ssd back F O G Q P cd):=by
 obtain⟨Z,hZ⟩:=qqe (zeroS);obtain⟨w1,hw1⟩:=qqe (((w.alloc (.cells #[ptr ssd] 46)).alloc (.cells #[ptr back] 46)).alloc (.cells #[.pointer none,.pointer none,.pointer none] 67));have hu1:Upd (fun _=>False) w w1:=by rw[hw1];exact(((uur _ w).alloc _).alloc _).alloc _
 have z1:w1.heap.size=w.heap.size+3:=by rw[hw1];simp
 obtain⟨ga1,gb1,gc1,-,-⟩:=xQ w (.cells #[ptr ssd] 46) (.cells #[ptr back] 46) (.cells #[.pointer none,.pointer none,.pointer none] 67);rw[<-hw1]at ga1 gb1 gc1;have D1:=hD.new hu1;have hsup:=QY D1.jP (fun j hj=> .inr hj) D1.back (fun j h3 h2=>by rcases h2 with h2|h2;rw[h3]at h2;exact absurd h2 (by decide);rw[D1.far j h2]at h3;exact absurd h3 (by decide)) D1.nib D1.on2 hF n hok hy;rw[hR,<-hZ]at hsup;have HS:Hid (Calls prog 21 #[ptr ssd,ptr back] w1 (fun e w'=>e=.returned (.tuple #[.agg Z.toArray,.int .i64 cd])/\Dv (fun j=>own j=2\/w1.heap.size<=j) w' ssd F O []/\Upd (fun j=>own j=2\/w1.heap.size<=j) w1 w')):=hsup;have H1:=Y6 hw1 hu1 z1 gc1 D1 hD;have ca:=za ga1 0;have cb:=za gb1 0;have hZl:Z.length=7:=by rw[hZ];rfl
 have hZ1:∀v∈Z,v.oneCell'=true:=by rw[hZ];exact qxw.1 (by simp[zeroS,Value.oneCell'])
 have hsZ:(prog.info? 40).map (·.size)=some Z.length:=by rw[hZl];exact yw
 have q0:(cd==0)=false:=by simpa using hcd
 have HC:=qqh hcd;have hbl:=sy;clear hD hok hF hy hR hcd hw1 hu1 z1 ga1 gb1 gc1 D1 hsup hZ;go_enter func23,ntmps23
 go_wp2_with fail
 rw[<-H1.o.1];refine HS.o.mono ?_;rintro e w2 ⟨rfl,hd2,hu2⟩;have D2:=H1.o.2.2.2.2.1.jM hu2 hd2;have did2:=H1.o.2.2.2.2.1.did2 hu2;obtain⟨own2,hown2⟩:=qqe (grow own 2 w1.heap.size w2.heap.size);rw[<-hown2]at D2 did2;obtain⟨w3,hw3⟩:=qqe (w2.alloc (.cells Z.toArray 40));have hu3:=qqu hw3;have D3:=D2.new hu3;have did3:=did2.trans (D2.ji hu3);have gc3:=did3.zero H1.o.2.2.2.1 (H1.o.2.2.2.2.2.far _ (by omega));have tA:=zO (n:=3) gc3.1 (by simp);obtain⟨q,hq⟩:=qqe (w.heap.size+1+1);have H3:=Y5 hw3 D3 did3 gc3 (show w.heap.size<=w.heap.size+1+1 by omega);have HQ:=qqh hq;rw[hw3]at tA;clear hd2 hu2 D2 did2 hown2 hu3 D3 did3 gc3 hw3 HS ca cb hq;go_wp2_with (first
  |(refine zk rfl _ _ _ rfl _ _ Z rfl rfl (by rw[hZl];rfl) hsZ hZ1 ?_)
  |(refine xH rfl _ rfl hbl ?_)
  |(refine qZi rfl _ _ _ rfl _ _ [Value.pointer none,Value.pointer none,Value.pointer none].toArray rfl rfl tA xx (by simp[Value.oneCell']) ?_)
  |fail)
 refine qYw (rN rfl _ _ (w.heap.size+1+1) 0 [.pointer none,.pointer none,.pointer none] _ rfl (qYr _ _ _ _ tA) underlying67 rfl xx) rfl ?_;obtain⟨hw3,D3,did3,gc3,hql⟩:=H3.o;rw[<-hw3];have hur:=zq w3 (w.heap.size+1+1) 0 [Value.pointer none,Value.pointer none,Value.pointer none];have hbn:=rk D3.nib D3.tur gc3.1 gc3.2 (fun k y h=>by simp at h);refine⟨rfl,own2,⟨D3.ssd.keep hur (fun j h e=>?_),D3.back.keep hur (fun j h e=>?_),fun j hj=>D3.far j (qXx hur.size hj),D3.nib.keep hur (fun e=>(hbn _ e).2.1 rfl),D3.tur.keep hur (fun e=>(hbn _ e).2.2 rfl),D3.on,D3.ot⟩,((H1.o.2.2.2.2.2.ji H1.o.2.1).trans did3).mine hur hql⟩
 .have:=(hbn j e).1;rw[this]at h;cases h
 .have:=(hbn j e).1;rw[this]at h;cases h
def zak(w:World)(n:CaN)(e:Ending)(w':World):Prop:=
 ∃own ssd back,e=.returned (.tuple #[ptr ssd,ptr back])/\Dvs own w' ssd back (fmtF n (List.replicate n.size zB) []) [] (List.replicate n.bl zB) [] []/\Below w.heap.size w w'/\∀j,j<w.heap.size->own j=0
theorem zal(n:CaN)(hok:n.Ok)(hm:mayS n.I=true)(w:World)(nib:Nib w)(tur:Tur w):Calls prog 38 #[.agg n.C.toArray] w (zak w n):=by
 obtain⟨U,hU⟩:=qqe (n.C);obtain⟨w1,hw1⟩:=qqe (w.alloc (.cells U.toArray 40));have hu1:=qqu hw1;have g1:=qqg hw1;have hUl:U.length=7:=by rw[hU];rfl
 have hU1:∀v∈U,v.oneCell'=true:=by rw[hU];exact n.C_one
 have hsU:(prog.info? 40).map (·.size)=some U.length:=by rw[hU];exact yW
 have hdv:=Ua n (n.id:Int) hok w1 (nib.keep hu1 (fun h=>h)) (tur.keep hu1 (fun h=>h));rw[show superC n.id n.bl n.sl n.jo n.pa n.lo n.ba=U from hU.symm]at hdv;have HD:=qqh hdv;obtain⟨q,hq⟩:=qqe (w.heap.size);have H:=Y7 hok hm hU hw1 hu1 g1 hq;have r1:=zh g1;rw[<-hq]at r1;rw[<-hU];clear nib tur hok hm hU hw1 hu1 g1 hdv hq;go_enter func38,ntmps38
 go_upto_region 1 with fail
 rw[<-H.o.2.2.2.1,<-H.o.2.2.2.2.2.2];go_wp2_with (first
  |(refine zE (by rfl) _ _ rfl _ _ rfl _ _ r1 underlying40 rfl hsU ?_)
  |fail)
 refine HD.o.mono ?_;rintro e w2 ⟨own,ssd,back,rfl,D2,hb2,ho2⟩;have hok:=H.o.1;have r2:=(uuo (S:=fun _=>False) hb2).range r1 (fun h=>h);have hf:=VB D2.jP (fun j hj=> .inr hj) D2.back D2.nib D2.on2 n hok H.o.2.1 (by rw[qzi]) (by rw[qzi]) (qYf _);rw[<-H.o.2.2.1]at hf;have HF:=qqh hf;have H2:=Y3 D2 hb2 ho2;clear D2 hb2 ho2 hok hf r1 HD;go_wp2_with (first
  |(refine zE (by rfl) _ _ rfl _ _ rfl _ _ r2 underlying40 rfl hsU ?_)
  |fail)
 refine HF.o.mono ?_;rintro e w3 ⟨rfl,hd3,hu3⟩;have D3:=H2.o.1.jM hu3 hd3;have H3:=Y2 D3 (H2.o.1.did2 hu3);clear hd3 hu3 D3 HF r2;go_wp2
 go_ret2
 have hu1:=H.o.2.2.2.2.1;refine⟨_,ssd,back,rfl,H3.o.1,?_,fun j hj=>?_⟩
 .refine zl (zl (Upd.below hu1) (uuo (S:=fun _=>False) H2.o.2.1) (qXv _) (fun _ h=>h.elim)) H3.o.2.upd (qXv _) (fun k hk=>Nat.le_of_not_lt fun hlt=>hk.1 (H2.o.2.2 k (qXy hlt hu1.size)))
 .have hl:=qXy hj hu1.size;rw[H3.o.2.old j (qXy hl H2.o.2.1.size)];exact H2.o.2.2 j hl
end Go.Proofs.YtfhfbpmlnjdfoaaGreatDoor
