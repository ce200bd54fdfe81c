/- A cache's inde -/
import Derived.Test.YtpejdgiccaijfaaGreatDoorG18
set_option maxRecDepth 100000
set_option maxHeartbeats 2000000
namespace Go.Proofs.YtpejdgiccaijfaaGreatDoor
open Go Go.RowKit Tryz
abbrev CaS.Tie(n:CaN)(a:CaS)(o:Option Nat):Prop:=TieL n.bl n.sl a.ps a.st a.K o
section
variable{n:CaN}{a:CaS}{o:Option Nat}
theorem CaS.Tie.ckpt(h:a.Tie n o):(a.ckpt n).1.Tie n o:=by
 unfold CaS.ckpt;split
 .exact h
 split
 .exact h
 split
 .exact h
 .exact TieL.freed h
theorem CaS.Tie.jV(h:a.Tie n o):(a.jV n).1.Tie n o:=by
 unfold CaS.jV;split
 .exact h
 .exact CaS.Tie.ckpt h
theorem CaS.Tie.jX(h:a.Tie n o):(a.jX n).1.Tie n o:=by
 unfold CaS.jX;split
 .exact h
 split
 .exact h
 .exact TieL.freed h
theorem CaS.Tie.evLeft(h:a.Tie n o)(hc:a.evC n=0):getC a.ps (a.evK n)=0/\turnCode a.st (getV a.ps (a.evK n)).1 3=0/\((a.ev n).left n (a.evK n)).Tie n o:=by
 rcases evR_cases (cleanB a.ps) n.sl a.K a.A a.H with⟨h1,-⟩|⟨-,i,A',hi,he,hf,-⟩
 .have:a.evC n=14:=h1;rw[this]at hc;cases hc
 .have hk:a.evK n=a.K[i]:=by rw[CaS.evK,he]
  have hg:=sP hf;rw[<-hk]at hg;have hp:=EvG.restK_perm hi;have hd:(a.K[i]::EvG.restK a.K i).Nodup:=hp.nodup_iff.2 h.kd;rw[qzw]at hd;have:=TieL.left h hg (K':=EvG.restK a.K i) hd.2 (fun x=>by
   rw[hk,<-hp.mem_iff,qzm];constructor
   .intro hx;exact⟨.inr hx,fun e=>hd.1 (e▸hx)⟩
   .rintro ⟨hx|hx,hne⟩
    .exact absurd hx hne
    .exact hx)
  refine⟨hg,this.1,?_⟩;show TieL n.bl n.sl (dropL a.ps (a.evK n)) (turnList a.st (getV a.ps (a.evK n)).1 3) (EvG.evR (cleanB a.ps) n.sl a.K a.A a.H).2.2.1 o;rw[he];exact this.2
theorem CaS.Tie.evNo(h:a.Tie n o)(hc:a.evC n≠0):(a.ev n).Tie n o:=by
 rcases evR_cases (cleanB a.ps) n.sl a.K a.A a.H with⟨-,he⟩|⟨h1,-⟩
 .show TieL n.bl n.sl a.ps a.st (EvG.evR (cleanB a.ps) n.sl a.K a.A a.H).2.2.1 o;rw[he];exact h
 .exact absurd h1 hc
theorem CaS.Tie.j6{n:CaN}{o:Option Nat}:∀(m g:Nat) {a:CaS},a.Tie n o->(CaS.j6 n m g a).1.Tie n o
 |0,g,a,h=>h
 |m+1,g,a,h=>by
  have hr:=CaS.Tie.jV h;simp only[CaS.j6];split
  .exact h
  split
  .exact hr
  split
  .next hc=>exact CaS.Tie.evNo hr hc
  .next hc=>
   obtain⟨-,h2,h3⟩:=CaS.Tie.evLeft hr (Decidable.of_not_not hc);split
   .exact h3
   .exact CaS.Tie.j6 m (g+1) h3
def CaS.TakeOk(n:CaN)(r:CaS×Int×Bool×Int):Prop:=
 (r.2.2.1=true/\r.2.2.2=0/\r.1.next+1<=r.1.cov+n.jo/\∃s:Nat,r.2.1=(s:Int)/\r.1.Tie n (some s))\/(r.2.2.1=false/\r.1.Tie n none)
theorem CaS.Tie.ko{s:Nat}(h:a.Tie n (some s))(h1:1<=a.next)(hj:4<=n.jo):CaS.TakeOk n (a.ko n (s:Int)):=by
 have hr:=CaS.Tie.jV h;unfold CaS.ko;split
 .next hc=>exact .inl ⟨rfl,rfl,CaS.ki hc h1 hj,s,rfl,hr⟩
 .exact .inr ⟨rfl,(TieL.shut hr (.inl rfl)).2⟩
theorem CaS.evicts_next(n:CaN):∀(m g:Nat) (a:CaS),a.next<=(CaS.j6 n m g a).1.next
 |0,g,a=>qXo _
 |m+1,g,a=>by
  have hn:=(a.jW n).1;simp only[CaS.j6];split
  .exact qXo _
  split
  .show a.next<=(a.jV n).1.next;omega
  split
  .show a.next<=(a.jV n).1.next;omega
  split
  .show a.next<=(a.jV n).1.next+1;omega
  .have:=CaS.evicts_next n m (g+1) (((a.jV n).1.ev n).left n ((a.jV n).1.evK n));exact qXq (by show a.next<=(a.jV n).1.next+1;omega) this
theorem CaS.Tie.take3(h:a.Tie n none)(h1:1<=a.next)(hj:4<=n.jo):CaS.TakeOk n (a.take3 n):=by
 have hc:=CaS.Tie.jX h;have hn:=(a.committed_next n).1;unfold CaS.take3;split
 .exact .inr ⟨rfl,hc⟩
 split
 .next ha=>
  refine .inr ⟨rfl,?_⟩;show TieL n.bl n.sl (a.jX n).1.ps (allocList (a.jX n).1.st) (a.jX n).1.K none;rw[rf ha];exact hc
 .next ha=>
  obtain⟨s,hs,hv,-,ht⟩:=TieL.alloc hc (Decidable.of_not_not ha);rw[hv];exact CaS.Tie.ko (a:=(a.jX n).1.al) ht (by show 1<=(a.jX n).1.next;omega) hj
theorem CaS.Tie.kt(h:a.Tie n none)(h1:1<=a.next)(hj:4<=n.jo):CaS.TakeOk n (a.kt n):=by
 unfold CaS.kt;split
 .exact .inr ⟨rfl,h⟩
 .exact CaS.Tie.take3 h h1 hj
theorem CaS.Tie.take1(h:a.Tie n none)(h1:1<=a.next)(hj:4<=n.jo):CaS.TakeOk n (a.take1 n):=by
 have he:=CaS.Tie.j6 (n:=n) 1 0 h;have hn:=CaS.evicts_next n 1 0 a;unfold CaS.take1;split
 .split
  .exact .inr ⟨rfl,he⟩
  .exact CaS.Tie.kt he oM hj
 .exact CaS.Tie.kt h h1 hj
theorem CaS.Tie.jZ(h:a.Tie n none)(h1:1<=a.next)(hj:4<=n.jo):CaS.TakeOk n (a.jZ n):=by
 unfold CaS.jZ;split
 .next ha=>
  obtain⟨s,hs,hv,-,ht⟩:=TieL.alloc h ha;rw[hv];exact CaS.Tie.ko (a:=a.al) ht h1 hj
 .next ha=>
  have:a.al.Tie n none:=by
   show TieL n.bl n.sl a.ps (allocList a.st) a.K none;rw[rf ha];exact h
  exact CaS.Tie.take1 this h1 hj
theorem CaS.Fit.jZ{N:Nat}(h:a.Fit N)(h1:1<=a.next)(hwl:∀b:CaS,(b=a.al\/b=(CaS.j6 n 1 0 a.al).1)->b.W.length<=n.jo):(a.jZ n).1.Fit (N+2*n.pa+n.jo+1):=by
 have h2:∀{b:CaS} {M:Nat},b.Fit M->b.W.length<=n.jo->(b.kt n).1.Fit (M+n.jo+n.pa):=by
  intro b M hb hw;have hc:=hb.jX (n:=n) hw;unfold CaS.kt;split
  .exact hb.mono oM
  .unfold CaS.take3;split
   .exact hc.mono oM
   split
   .exact hc.al.mono oM
   .exact hc.al.ko _
 have he:=CaS.Fit.j6 (n:=n) 1 0 h.al h1;unfold CaS.jZ;split
 .exact (h.al.ko _).mono oM
 .unfold CaS.take1;split
  .split
   .exact he.mono oM
   .exact (h2 he (hwl _ (.inr rfl))).mono oM
  .exact (h2 h.al (hwl _ (.inl rfl))).mono oM
end
section
variable{bl sl:Nat}{ps:List (Int×Bool)}{st K:List Int}{s k:Nat}
theorem TieL.putC(h:TieL bl sl ps st K (some s))(hk:k<bl):putC ps sl (k:Int) (s:Int)=0:=by
 have hs:=h.olt s rfl;have h1:=(h.opn s hs).2 rfl;have hpl:=h.hpl;unfold Go.Proofs.YtpejdgiccaijfaaGreatDoor.putC;rw[if_neg oM,if_pos]
 left
 cases ha:atOf ps (s:Int)with
 |none=>rfl
 |some j=>
  obtain⟨-,hj,he⟩:=yO ha;have hn:plc ps j≠(-1,false):=by
   rw[wY hj];intro e;rw[e]at he;simp at he
  have h2:=h.live j oM hn;rw[wY hj,he,qxt,h1]at h2;cases h2
theorem TieL.put(h:TieL bl sl ps st K (some s))(hk:k<bl)(d:Bool):
  vN ps sl (k:Int) (s:Int) d=ps.set k ((s:Int),d)/\um ps sl (k:Int) (s:Int)=plc ps k/\turnCode st (s:Int) 2=0/\turnList st (s:Int) 2=st.set s 2/\
   (plc ps k=(-1,false)->(k:Int)∉K/\K.length≠sl/\TieL bl sl (ps.set k ((s:Int),d)) (st.set s 2) (K++[(k:Int)]) none)/\
   (plc ps k≠(-1,false)->(k:Int)∈K/\TieL bl sl (ps.set k ((s:Int),d)) (turnList (st.set s 2) (plc ps k).1 3) K none):=by
 have hc:=h.putC hk;have hs:=h.olt s rfl;have h1:=(h.opn s hs).2 rfl;have hkl:k<ps.length:=by rw[h.hpl];exact hk
 have hsl:s<st.length:=by rw[h.hsl];exact hs
 obtain⟨ht,htl⟩:=vv (l:=st) (s:=s) (t:=2) hsl de (by rw[h1];decide);have hgp:=fun j=>ZN ps k j ((s:Int),d) hkl;have hgs:∀r,(st.set s 2).getD r 0=if r=s then 2 else st.getD r 0:=fun r=>by
  rw[xh];by_cases e:s=r
  .subst e;rw[if_pos ⟨rfl,hsl⟩,if_pos rfl]
  .rw [if_neg (fun x=>e x.1),if_neg (fun x=>e x.symm)]
 have hno:∀j,j<bl->plc ps j≠(-1,false)->(plc ps j).1≠(s:Int):=by
  intro j hj hn e;have:=h.live j hj hn;rw[e,qxt,h1]at this;cases this
 have hgood:Good (ps.set k ((s:Int),d)) sl:=by
  refine h.good.put hkl d oM oM ?_
  left
  cases ha:atOf ps (s:Int)with
  |none=>rfl
  |some j=>
   obtain⟨-,hj,he⟩:=yO ha;refine absurd ?_ (hno j (by rw[<-h.hpl];exact hj) ?_)
   .rw [wY hj];exact he
   .rw [wY hj];intro e;rw[e]at he;simp at he
 have hnn:∀j,plc (ps.set k ((s:Int),d)) j≠(-1,false)↔(j=k\/plc ps j≠(-1,false)):=by
  intro j;rw[hgp j];by_cases e:j=k
  .rw [if_pos e];refine⟨fun _=> .inl e,fun _ e2=>?_⟩;have:=congrArg Prod.fst e2;simp at this
  .rw [if_neg e];exact⟨.inr,fun hx=>hx.resolve_left e⟩
 have hkk:∀x:Int,getC (ps.set k ((s:Int),d)) x=0↔(x=(k:Int)\/getC ps x=0):=by
  intro x;rw[yw,yw];constructor
  .rintro ⟨j,hj,rfl,hn⟩;rw[qze]at hj;rcases(hnn j).1 hn with rfl|hn
   .exact .inl rfl
   .exact .inr ⟨j,hj,rfl,hn⟩
  .rintro (rfl|⟨j,hj,rfl,hn⟩)
   .exact ⟨k,by rw[qze];exact hkl,rfl,(hnn k).2 (.inl rfl)⟩
   .exact ⟨j,by rw[qze];exact hj,rfl,(hnn j).2 (.inr hn)⟩
 refine⟨by unfold vN;rw[if_pos hc,qxt],by unfold um;rw[if_pos hc,qxt],ht,htl,fun he=>?_,fun he=>?_⟩
 .have hnk:(k:Int)∉K:=fun hm=>by
   obtain⟨m,hm1,hm2,hm3⟩:=yw.1 ((h.kk k).1 hm);obtain rfl:k=m:=oM;exact hm3 he
  refine⟨hnk,by have:=h.room;omega,?_⟩;exact{
   hpl:=by rw[qze];exact h.hpl
   hsl:=by rw[qze];exact h.hsl
   good:=hgood
   live:=fun j hj hn=>by
    rw[hgp j];by_cases e:j=k
    .rw [if_pos e,qxt,hgs s,if_pos rfl]
    .rw [if_neg e];obtain⟨r,hr,her,hr2⟩:=h.slot hj (((hnn j).1 hn).resolve_left e);rw[her,qxt,hgs r];split
     .rfl
     .exact hr2
   used:=fun r hr h2=>by
    by_cases e:r=s
    .exact ⟨k,hk,by rw[hgp k,if_pos rfl,e]⟩
    .rw [hgs r,if_neg e]at h2;obtain⟨j,hj,hjr⟩:=h.used r hr h2;refine⟨j,hj,?_⟩;rw[hgp j,if_neg (fun e2=>?_)]
     .exact hjr
     .rw [e2,he]at hjr;simp at hjr
   opn:=fun r hr=>by
    rw[hgs r];by_cases e:r=s
    .rw [if_pos e];simp
    .rw [if_neg e,h.opn r hr];simp;exact fun e2=>e e2.symm
   rng:=fun r hr=>by
    rw[hgs r];split
    .decide
    .exact h.rng r hr
   olt:=fun r hr=>by cases hr
   kk:=fun x=>by
    rw[hkk,qzl,qzt,h.kk];exact or_comm
   kd:=by
    rw[qzv];exact⟨h.kd,oe,fun x hx y hy e=>by simp at hy;subst hy;subst e;exact hnk hx⟩}
 .have hkK:(k:Int)∈K:=(h.kk k).2 (yw.2 ⟨k,hkl,rfl,he⟩);obtain⟨r0,hr0,her0,hr02⟩:=h.slot hk he;have hrs:r0≠s:=fun e=>hno k hk he (by rw[her0,e]);refine⟨hkK,?_⟩;rw[her0];have hsl2:r0<(st.set s 2).length:=by rw[qze,h.hsl];exact hr0
  have h22:(st.set s 2).getD r0 0=2:=by rw[hgs r0,if_neg hrs];exact hr02
  rw[(vv (l:=st.set s 2) (s:=r0) (t:=3) hsl2 de (by rw[h22];decide)).2];have hgr:∀r,((st.set s 2).set r0 3).getD r 0=if r=r0 then 3 else if r=s then 2 else st.getD r 0:=fun r=>by
   rw[xh,hgs r];by_cases e:r0=r
   .subst e;rw[if_pos ⟨rfl,hsl2⟩,if_pos rfl]
   .rw [if_neg (fun x=>e x.1),if_neg (fun(x:r=r0)=>e x.symm)]
  exact{
   hpl:=by rw[qze];exact h.hpl
   hsl:=by rw[qze,qze];exact h.hsl
   good:=hgood
   live:=fun j hj hn=>by
    rw[hgp j];by_cases e:j=k
    .rw [if_pos e,qxt,hgr s,if_neg (fun e2=>hrs e2.symm),if_pos rfl]
    .rw [if_neg e];have hn':=((hnn j).1 hn).resolve_left e;obtain⟨r,hr,her,hr2⟩:=h.slot hj hn';rw[her,qxt,hgr r,if_neg (fun e2=>e (h.inj hj hk (by rw[her];omega) (by rw[her,her0,e2])))];split
     .rfl
     .exact hr2
   used:=fun r hr h2=>by
    rw[hgr r]at h2;by_cases e0:r=r0
    .rw [if_pos e0]at h2;cases h2
    .rw [if_neg e0]at h2;by_cases e:r=s
     .exact ⟨k,hk,by rw[hgp k,if_pos rfl,e]⟩
     .rw [if_neg e]at h2;obtain⟨j,hj,hjr⟩:=h.used r hr h2;refine⟨j,hj,?_⟩;rw[hgp j,if_neg (fun e2=>?_)]
      .exact hjr
      .rw [e2,her0]at hjr;exact e0 oM
   opn:=fun r hr=>by
    rw[hgr r];by_cases e0:r=r0
    .rw [if_pos e0];simp
    .rw [if_neg e0];by_cases e:r=s
     .rw [if_pos e];simp
     .rw [if_neg e,h.opn r hr];simp;exact fun e2=>e e2.symm
   rng:=fun r hr=>by
    rw[hgr r];split
    .decide
    .split
     .decide
     .exact h.rng r hr
   olt:=fun r hr=>by cases hr
   kk:=fun x=>by
    rw[hkk,h.kk];constructor
    .exact .inr
    .rintro (rfl|hx)
     .exact (h.kk _).1 hkK
     .exact hx
   kd:=h.kd}
end
theorem CaS.Tie.put{n:CaN}{a:CaS}{s k:Nat}(h:a.Tie n (some s))(hk:k<n.bl)(sum:Nat)(d:Bool):putC a.ps n.sl (k:Int) (s:Int)=0/\(a.ke n (k:Int) s sum d).2=0/\(a.ke n (k:Int) s sum d).1.Tie n none:=by
 obtain⟨h1,h2,h3,h4,h5,h6⟩:=TieL.put h hk d;refine⟨TieL.putC h hk,?_⟩;by_cases hp:plc a.ps k=(-1,false)
 .obtain ⟨h7,h8,h9⟩:=h5 hp;unfold CaS.ke;rw[h2,if_pos (by rw[hp];exact⟨rfl,rfl⟩)];refine⟨by show addC n.sl a.K (k:Int)=0;unfold addC;rw[if_neg h7,if_neg h8],?_⟩;show TieL n.bl n.sl (vN a.ps n.sl (k:Int) (s:Int) d) (turnList a.st (s:Int) 2) (rS n.sl a.K (k:Int)) none;rw[h1,h4,rS,if_neg (by intro e;rcases e with e|e;exact h7 e;exact h8 e)];exact h9
 .obtain ⟨h7,h8⟩:=h6 hp;unfold CaS.ke;rw[h2,if_neg (fun e=>hp (Prod.ext e.1 e.2))];refine⟨by show touchC a.K (k:Int)=0;unfold touchC;rw[if_pos h7],?_⟩;show TieL n.bl n.sl (vN a.ps n.sl (k:Int) (s:Int) d) (turnList (turnList a.st (s:Int) 2) (plc a.ps k).1 3) a.K none;rw[h1,h4];exact h8
theorem CaS.Tie.kw{n:CaN}{a:CaS}{o:Option Nat}(h:a.Tie n o){k:Int}(hg:getC a.ps k=0):turnCode a.st (getV a.ps k).1 3=0/\touchC a.K k=0/\(a.kw n k).Tie n o:=by
 have hk:=(h.kk k).2 hg;have:=TieL.left h hg (K':=a.K.erase k) (h.kd.erase k) (fun x=>by rw[h.kd.mem_erase_iff];exact and_comm);refine⟨this.1,by unfold touchC;rw[if_pos hk],this.2⟩
theorem CaS.Tie.j4{n:CaN}{a:CaS}{s:Nat}(h:a.Tie n (some s))(blk:Int)(x:Bk):((a.j4 n s blk x).2=0/\(a.j4 n s blk x).1.Tie n (some s))\/((a.j4 n s blk x).2≠0/\(a.j4 n s blk x).1.Tie n none):=by
 unfold CaS.j4;split
 .exact .inl ⟨rfl,h⟩
 .next hc=>exact .inr ⟨hc,(TieL.shut h (.inr rfl)).2⟩
def CaS.byp(n:CaN)(b:CaS)(k:Nat):CaS:=if getC b.ps (k:Int)=0 then b.kw n (k:Int)else b
def CaS.j3(n:CaN)(a:CaS)(k:Nat)(x:Bk):CaS×Int:=
 if(a.jV n).2≠0 then((a.jV n).1,(a.jV n).2)
 else if(writeR (a.jV n).1.bF (a.jV n).1.bO (a.jV n).1.bP k x).cd≠0 then((a.jV n).1.kf (writeR (a.jV n).1.bF (a.jV n).1.bO (a.jV n).1.bP k x),(writeR (a.jV n).1.bF (a.jV n).1.bO (a.jV n).1.bP k x).cd)
 else(((a.jV n).1.kf (writeR (a.jV n).1.bF (a.jV n).1.bO (a.jV n).1.bP k x)).byp n k,0)
section
variable{own:Nat->Nat}{w w':World}{c:Nat}{n:CaN}{p:CaP}{a:CaS}{N:Nat}
theorem XB(h:CaAt own w c n p a)(hf:a.Fit N)(hN:N<=50000)(ht:a.Tie n none)(k:Nat)(hr:a.next<=a.cov+n.jo):
  Calls prog 244 #[ptr c,.int .i64 (k:Int)] w (zx own w c n p (a.byp n k) (.int .i64 0)):=by
 by_cases hg:getC a.ps (k:Int)=0
 .obtain ⟨h1,h2,-⟩:=ht.kw hg;have hkr:(k:Int)<4096:=by
   have h1:=h.pl;have h2:=h.ok.b2;obtain⟨m,hm,e,-⟩:=yw.1 hg;omega
  have:=ZK h (k:Int) hg hr (by have:=hf.nx;omega) (sO h.nx1 (by have:=hf.nx;omega) (by have:=h.ok.j1;omega) ⟨oM,hkr⟩) h1;rw[h2]at this;unfold CaS.byp;rw[if_pos hg];exact this
 .unfold CaS.byp;rw[if_neg hg];exact Xj h (k:Int) hg
theorem CaS.Fit.byp(h:a.Fit N)(h1:1<=a.next)(k:Nat):(a.byp n k).Fit (N+1):=by
 unfold CaS.byp;split
 .exact {h.left h1 (k:Int)with}
 .exact h.mono oM
theorem CaS.Fit.bw(h:a.Fit N)(k:Nat)(x:Bk):(a.kf (writeR a.bF a.bO a.bP k x)).Fit (N+1):=
 {h.mono (qXp N)with bO:=by have h1:=wM a.bF a.bO a.bP k x;have h2:=h.bO;show(writeR a.bF a.bO a.bP k x).O.length<=_;omega}
theorem CaS.Fit.j3(h:a.Fit N)(h1:1<=a.next)(k:Nat)(x:Bk):(a.j3 n k x).1.Fit (N+n.pa+2):=by
 have hr:=h.jV (n:=n);have hn:=(a.jW n).1;have hb:=hr.bw k x;unfold CaS.j3;split
 .exact hr.mono oM
 split
 .exact hb.mono oM
 .exact (hb.byp (n:=n) (by show 1<=(a.jV n).1.next;omega) k).mono oM
theorem CaS.Tie.byp{o:Option Nat}(h:a.Tie n o)(k:Nat):(a.byp n k).Tie n o:=by
 unfold CaS.byp;split
 .next hg=>exact(CaS.Tie.kw h hg).2.2
 .exact h
theorem CaS.Tie.j3(h:a.Tie n none)(k:Nat)(x:Bk):(a.j3 n k x).1.Tie n none:=by
 have hr:=CaS.Tie.jV h;unfold CaS.j3;split
 .exact hr
 split
 .exact hr
 .exact CaS.Tie.byp (a:=(a.jV n).1.kf (writeR (a.jV n).1.bF (a.jV n).1.bO (a.jV n).1.bP k x)) hr k
theorem tf(h:CaAt own w c n p a)(hf:a.Fit N)(hN:N+n.pa+2<=50000)(ht:a.Tie n none)(k:Nat)(hk:k<n.bl)(x:Bk)(hx:x.length=64):
  Calls prog 178 #[ptr c,.int .i64 (k:Int),.agg (bkC x).toArray] w (zx own w c n p (a.j3 n k x).1 (.int .i64 (a.j3 n k x).2)):=by
 obtain⟨w1,hw1⟩:=qqe (w.alloc (.cells (bkC x).toArray 60));have hu1:=qqu hw1;have hg1:=qqg hw1;obtain⟨m,hm⟩:=qqe (w.heap.size);have hm0:own m=0:=h.far _ oM;rw[<-hm]at hg1;have h1:=h.new hu1;have d1:=h.jY hu1;have HP:=qqh (uG h1 hf oM);obtain⟨R,hR⟩:=qqe (a.j3 n k x);rw[<-hR];unfold CaS.j3 at hR;have hfr:=hf.jV (n:=n);have htr:=CaS.Tie.jV ht;have hnn:=(a.jW n).1;have hnx:=h.nx1;have hrm:=fun h=>CaS.ki (a:=a) (n:=n) h hnx (show 4<=n.jo by have:=h1.ok.j1;omega);generalize a.jV n=r at*;obtain⟨b,cd⟩:=r;simp only at HP hR hfr htr hnn hrm;have H:=Y9 hm0 d1 hg1 hx hR hfr htr hrm hk;have HM:=qqh hm;have HW1:=qqh hw1;have hut:=underlying60;have hsi:=zq x hx;clear h hf hx hu1 hg1 h1 hm0 hm hw1 d1 hR hfr htr hnn hrm hnx ht hk;go_enter func178,ntmps178
 go_wp2_with fail
 rw[<-HW1.o,<-HM.o];refine HP.o.mono ?_;rintro e w2 ⟨rfl,own2,h2,hd2⟩;obtain⟨hm0,hd1,hg1,hx,hR,hfr,htr,hrm,hk⟩:=H.o;have d2:=hd1.trans hd2;by_cases hc:cd=0
 rotate_left
 .have q0:(cd==0)=false:=by simpa using hc
  rw[if_pos hc]at hR;have HY:=Y3 h2 d2 hR;clear h2 d2 hR hd2 hd1 hm0 hg1 hx hfr htr hrm hk HP;go_wp2
  go_ret
  rw[HY.o.2.2];exact⟨rfl,own2,HY.o.1,HY.o.2.1⟩
 subst hc;rw[if_neg oe]at hR;replace hrm:=hrm oe;obtain⟨-,e0,-,-,-,-,-,-,-⟩:=h2.cells;have r2:=hd2.upd.range (zg hg1) (fun h=>h.1 hm0);have hm2:own2 m=0:=(hd2.old m (zd hg1)).trans hm0;have hu2:=(uur (fun _=>False) w2).drew;have HWr:=qqh (vI (h2.new hu2) k (by rw[h2.gl];exact hk) x hx (by have:=hfr.bO;omega));have hfb:=hfr.bw k x;generalize hrr:writeR b.bF b.bO b.bP k x=r at*;have HD:=Y6 hm2 hR hfb htr hrm (d2.trans (h2.jY hu2));clear hm0 hd1 hg1 hx h2 hd2 hm2 HP d2 hR hfr htr hrm hk hu2 hrr;go_upto_region 4 with fail
 refine qZb (S:=fun W=>W.cell? ⟨c,15,none⟩=some (ptr p.back)/\W.rangeAt m 0 (bkC x)) kR (by(simp only[qYh,qYj]);exact⟨e0,r2⟩) (fun hHeld=>?_);refine Wl.i [0,1,2,3,4] ?_;iterate 5 refine Wl.t hHeld ?_
 refine Wl.o ?_;refine Wl.l 5 (fun w h=>h.2) hut hsi hHeld ?_;refine Wl.r 6 (fun K hK=>?_);go_simp
 refine HWr.out.mono ?_;rintro e w3 ⟨rfl,own3,h3,hd3⟩;obtain⟨-,i0,-,-,-,-,-,-,-⟩:=h3.cells;have r3:=hd3.upd.range (show w2.drew.rangeAt m 0 (bkC x) by rw[qYj];exact r2) (fun h=>h.1 HD.o.1);have H3:=Y2 h3 (HD.o.2.2.2.2.2.trans hd3);clear h3 hd3;refine hK.o _ _ (⟨i0,r3⟩) (fun hH1=>?_);clear hK K;refine Wl.r 7 (fun K hK=>?_);go_simp
 refine hK.o _ _ (hH1) (fun hH2=>?_);clear hK K;refine Wl.d ?_;clear hHeld hH1 hH2 i0 r3 r2 e0 HWr;have hR:=HD.o.2.1;obtain⟨rcd,hrcd⟩:=qqe (r.cd);rw[<-hrcd]at hR⊢;by_cases hc:rcd=0
 rotate_left
 .have q0:(rcd==0)=false:=by simpa using hc
  rw[if_pos hc]at hR;have HY:=qqh hR;clear hR hrcd;go_wp2
  go_ret
  rw[HY.o];exact⟨rfl,own3,H3.o.1,H3.o.2⟩
 subst hc;rw[if_neg oe]at hR;have HQ:=qqh (zx.from H3.o.2 (XB H3.o.1 HD.o.2.2.1 oM HD.o.2.2.2.1 k (by have:=HD.o.2.2.2.2.1;show b.next<=b.cov+n.jo;omega)));have HY:=qqh hR;clear hR hrcd;go_wp2_with fail
 refine HQ.o.mono ?_;rintro e w4 ⟨rfl,own4,h4,hd4⟩;have H4:=Y2 h4 hd4;clear h4 hd4 HQ;go_wp2
 go_ret
 rw[HY.o];exact⟨rfl,own4,H4.o.1,H4.o.2⟩
end
structure CaS.Jg(n:CaN)(a:CaS):Prop where
 wl:a.W.length+a.cov+1<=a.next
 room:a.next<=a.cov+n.jo+1
theorem CaAt.jg{own:Nat->Nat}{w:World}{c:Nat}{n:CaN}{p:CaP}{a:CaS}(h:CaAt own w c n p a):a.Jg n:=⟨h.jr.good.wl,h.jr.good.room⟩
section
variable{n:CaN}{a:CaS}{N:Nat}
theorem CaS.Jg.len(h:a.Jg n):a.W.length<=n.jo:=by have:=h.wl;have:=h.room;omega
theorem CaS.Jg.ckpt(h:a.Jg n):(a.ckpt n).1.Jg n:=by
 have h1:=h.wl;have h2:=h.room;unfold CaS.ckpt;split
 .exact ⟨h1,h2⟩
 split
 .exact ⟨h1,h2⟩
 split
 .exact ⟨h1,h2⟩
 .exact ⟨by show 0+(a.next-1)+1<=a.next;omega,by show a.next<=(a.next-1)+n.jo+1;omega⟩
theorem CaS.Jg.jV(h:a.Jg n):(a.jV n).1.Jg n:=by
 unfold CaS.jV;split
 .exact h
 .exact h.ckpt
theorem CaS.Jg.left(h:a.Jg n)(hr:a.next<=a.cov+n.jo)(k:Int):(a.left n k).Jg n:=by
 have h1:=h.wl;exact⟨by show(a.W++_).length+a.cov+1<=a.next+1;rw[qyy];simp;omega,by show a.next+1<=a.cov+n.jo+1;omega⟩
theorem CaS.Jg.j6{n:CaN}(hj:4<=n.jo):∀(m g:Nat) {a:CaS},a.Jg n->1<=a.next->(CaS.j6 n m g a).1.Jg n
 |0,g,a,h,_=>h
 |m+1,g,a,h,h1=>by
  have hr:=h.jV;have hn:=(a.jW n).1;simp only[CaS.j6];split
  .exact h
  split
  .exact hr
  split
  .exact ⟨hr.wl,hr.room⟩
  .next hc _=>
   have hrm:=CaS.ki (Decidable.of_not_not hc) h1 hj;have hl:(((a.jV n).1.ev n).left n ((a.jV n).1.evK n)).Jg n:=CaS.Jg.left (a:=(a.jV n).1.ev n) ⟨hr.wl,hr.room⟩ (by show(a.jV n).1.next<=(a.jV n).1.cov+n.jo;omega) _;split
   .exact hl
   .exact CaS.Jg.j6 hj m (g+1) hl (by show 1<=(a.jV n).1.next+1;omega)
theorem CaS.Fit.takes'(h:a.Fit N)(hg:a.Jg n)(h1:1<=a.next)(hj:4<=n.jo):(a.jZ n).1.Fit (N+2*n.pa+n.jo+1):=
 h.jZ h1 (fun b hb=>by
  rcases hb with rfl|rfl
  .exact hg.len
  .exact (CaS.Jg.j6 (a:=a.al) hj 1 0 ⟨hg.wl,hg.room⟩ h1).len)
theorem CaS.Fit.j4(h:a.Fit N)(s:Nat)(blk:Int)(x:Bk):(a.j4 n s blk x).1.Fit (N+1):=by
 have h1:=wM a.dF a.dO a.dP (n.j8+s) x;have h2:=h.dO;unfold CaS.j4;split
 .exact {h.mono (qXp N)with dO:=by show(writeR a.dF a.dO a.dP (n.j8+s) x).O.length<=_;omega}
 .exact {h.mono (qXp N)with dO:=by show(writeR a.dF a.dO a.dP (n.j8+s) x).O.length<=_;omega}
theorem CaS.Fit.ke(h:a.Fit N)(h1:1<=a.next)(k:Int)(s sum:Nat)(d:Bool)(hs:sum<=4294967295):(a.ke n k s sum d).1.Fit (N+1):=by
 have hsm:∀x v,xP a.sums k (some sum) x=some v->v<=4294967295:=fun x v hv=>by
  simp only[xP]at hv;split at hv
  .cases hv;exact hs
  .exact h.sm x v hv
 have hw1:∀q∈a.W++[(a.next,sectR (jaddX a.next n.jo 0 k s d sum))],1<=q.1:=fun q hq=>by
  rcases qzl.1 hq with hq|hq
  .exact h.w1 q hq
  .simp at hq;subst hq;exact h1
 have e1:=h.nx;have e2:=h.iN;have e3:=h.mN;have e4:=h.kN;unfold CaS.ke;split
 .exact {h.mono (qXp N)with sm:=hsm,w1:=hw1,nx:=by(show a.next+1<=N+1;omega),iN:=by(show a.iN+1<=N+1;omega),mN:=by(show a.mN+1<=N+1;omega),kN:=by(show a.kN+1<=N+1;omega)}
 .exact {h.mono (qXp N)with sm:=hsm,w1:=hw1,nx:=by(show a.next+1<=N+1;omega),iN:=by(show a.iN+1<=N+1;omega),mN:=by(show a.mN+1<=N+1;omega),kN:=by(show a.kN+1<=N+1;omega)}
end
def CaS.backS(n:CaN)(b:CaS)(k:Nat)(s:Nat)(x:Bk):CaS×Int:=
 if(b.j4 n s k x).2≠0 then((b.j4 n s k x).1,(b.j4 n s k x).2)else(((b.j4 n s k x).1.ke n k s (crcC x) true).1,0)
def CaS.kj(n:CaN)(a:CaS)(k:Nat)(x:Bk):CaS×Int:=
 if(a.jZ n).2.2.2≠0 then((a.jZ n).1,(a.jZ n).2.2.2)
 else if(a.jZ n).2.2.1=false then(a.jZ n).1.j3 n k x else(a.jZ n).1.backS n k (a.jZ n).2.1.toNat x
section
variable{own:Nat->Nat}{w w':World}{c:Nat}{n:CaN}{p:CaP}{a:CaS}{N:Nat}
theorem xI(n:CaN)(a:CaS)(s:Nat)(blk:Int)(x:Bk):(a.j4 n s blk x).1.next=a.next/\(a.j4 n s blk x).1.cov=a.cov:=by
 unfold CaS.j4;split<;>exact⟨rfl,rfl⟩
theorem Ez(h:CaAt own w c n p a)(hf:a.Fit N)(hN:N+3*n.pa+n.jo+4<=50000)(ht:a.Tie n none)(k:Nat)(hk:k<n.bl)(x:Bk)(hx:x.length=64):
  Calls prog 241 #[ptr c,.int .i64 (k:Int),.agg (bkC x).toArray] w (zx own w c n p (a.kj n k x).1 (.int .i64 (a.kj n k x).2)):=by
 obtain⟨w1,hw1⟩:=qqe (w.alloc (.cells (bkC x).toArray 60));have hu1:=qqu hw1;have hg1:=qqg hw1;obtain⟨m,hm⟩:=qqe (w.heap.size);have hm0:own m=0:=h.far _ oM;rw[<-hm]at hg1;have h1:=h.new hu1;have d1:=h.jY hu1;have HP:=qqh (Ue h1 hf oM);obtain⟨R,hR⟩:=qqe (a.kj n k x);rw[<-hR];unfold CaS.kj at hR;have hjo:=h.ok.j1;have hft:=hf.takes' h.jg h.nx1 hjo;have htk:=CaS.Tie.jZ ht h.nx1 hjo;generalize a.jZ n=r at*;obtain⟨b,sv,okb,cd⟩:=r;simp only at HP hR hft;have H:=Y9 hm0 d1 hg1 hx hR hft htk hk hN;have HM:=qqh hm;have HW1:=qqh hw1;have hut:=underlying60;have hsi:=zq x hx;clear h hf hx hu1 hg1 h1 hm0 hm hw1 d1 hR hft htk ht hk hN;go_enter func241,ntmps241
 go_wp2_with fail
 rw[<-HW1.o,<-HM.o];refine HP.o.mono ?_;rintro e w2 ⟨rfl,own2,h2,hd2⟩;obtain⟨hm0,hd1,hg1,hx,hR,hft,htk,hk,hN⟩:=H.o;have d2:=hd1.trans hd2;have r2:=hd2.upd.range (zg hg1) (fun h=>h.1 hm0);have hm2:own2 m=0:=(hd2.old m (zd hg1)).trans hm0;clear hm0 hd1 hg1 hd2 HP;by_cases hc:cd=0
 rotate_left
 .have q0:(cd==0)=false:=by simpa using hc
  rw[if_pos hc]at hR;have HY:=Y3 h2 d2 hR;clear h2 d2 hR hx hft htk hk r2 hm2 hN;go_wp2
  go_ret
  rw[HY.o.2.2];exact⟨rfl,own2,HY.o.1,HY.o.2.1⟩
 subst hc;rw[if_neg oe]at hR;rcases htk with⟨hok,-,hrm,s,hs,htie⟩|⟨hok,htie⟩
 rotate_left
 .simp only at hok htie;subst hok;rw[if_pos rfl]at hR;have HB:=qqh (zx.from d2 (tf h2 hft oM htie k hk x hx));have HY:=qqh hR;clear h2 d2 hR hx hft htie hk hm2 hN;go_wp2_with (first
   |(refine qYy rfl _ _ rfl _ _ rfl _ _ r2 hut rfl hsi ?_)
   |fail)
  rw[<-HY.o]at HB;refine HB.o.mono ?_;rintro e w3 ⟨rfl,own3,h3,d3⟩;have H3:=Y2 h3 d3;clear h3 d3 HB r2;go_wp2
  go_ret
  exact⟨rfl,own3,H3.o.1,H3.o.2⟩
 simp only at hok hs htie hrm;subst hok hs;rw[if_neg de,qxt]at hR;unfold CaS.backS at hR;have hsl:=htie.olt s rfl;have HF:=qqh (VT h2 s hsl (k:Int) (.inr ⟨oM,oM⟩) x hx (by have:=hft.dO;omega));have hff:=hft.j4 (n:=n) s (k:Int) x;have htf:=CaS.Tie.j4 htie (k:Int) x;have hnf:=xI n b s (k:Int) x;generalize CaS.j4 n b s (k:Int) x=r at*;obtain⟨b2,cd2⟩:=r;simp only at HF hR hff htf hnf;have H2:=Y12 d2 hm2 hR hff htf hnf hrm hk hx h2.nx1 h2.ok hN;clear h2 d2 hm2 hR hff htf hnf hrm hk hx htie hft hsl hN;go_wp2_with (first
  |(refine qYy rfl _ _ rfl _ _ rfl _ _ r2 hut rfl hsi ?_)
  |fail)
 refine HF.o.mono ?_;rintro e w3 ⟨rfl,own3,h3,hd3⟩;obtain⟨d2,hm2,hR,hff,htf,hnf,hrm,hk,hx,hnx,hok,hN⟩:=H2.o;have d3:=d2.trans hd3;have r3:=hd3.upd.range r2 (fun h=>h.1 hm2);have hm3:own3 m=0:=(hd3.old m (qYg w2 _ (r2 0 _ oJ))).trans hm2;clear r2 d2 hm2 hd3 HF;rcases htf with⟨hc,htf⟩|⟨hc,htf⟩
 rotate_left
 .have q0:(cd2==0)=false:=by simpa using hc
  rw[if_pos hc]at hR;have HY:=Y3 h3 d3 hR;clear h3 d3 hR hff htf hnf hrm hk hx hnx hok hN;go_wp2
  go_ret
  rw[HY.o.2.2];exact⟨rfl,own3,HY.o.1,HY.o.2.1⟩
 subst hc;rw[if_neg oe]at hR;obtain⟨w4,hw4⟩:=qqe (w3.alloc (.cells #[.slice (some ⟨m,0,none⟩) 64 64] 269));have hu4:=qqu hw4;have h4:=h3.new hu4;have r4:=hu4.range r3 id;have g4:=qqg hw4;have HS:=qqh (vY (cl:=1) x h4.nib (za g4 0) r4 hx oM oM);have hput:=CaS.Tie.put htf hk (crcC x) true;have hle:=hff.nx;have hso:=htf.olt s rfl;have hcl:=vX x;have HQ:Hid (∀own5 w5,CaAt own5 w5 c n p b2->Calls prog 310 #[ptr c,.int .i64 (k:Int),.int .i64 (s:Int),.int .i64 (crcC x:Int),.bool true] w5 (zx own5 w5 c n p (b2.ke n (k:Int) s (crcC x) true).1 (.int .i64 0))):=by
  intro own5 w5 h5;have hmx:maxLen>=60000:=by simp only[maxLen];omega
  have:=VU h5 (k:Int) s (crcC x) true (by rw[hnf.1,hnf.2];omega) oM (Xp true h5.nx1 oM (by have:=hok.j1;omega) ⟨oM,by have:=hok.b2;omega⟩ (by have:=hok.s2;omega) oM) hput.1 (by have:=hff.iN;omega) oM (by have:=hff.mN;omega) (by have:=hff.kN;omega);rw[hput.2.1]at this;exact this
 have HY:=Y4 h4 (d3.trans (h3.jY hu4)) hR hw4;clear h3 d3 hR hff htf hnf hrm hk hx hnx hok hN hu4 h4 r4 g4 hput hle hso hcl hw4 r3;go_wp2_with fail
 rw[<-HY.o.2.2.2];refine HS.o.mono ?_;rintro e w5 ⟨rfl,hb5⟩;have hu5:=qqb hb5;have HZ:=qqh (zx.from (HY.o.2.1.trans (HY.o.1.jY hu5)) (HQ.o _ _ (HY.o.1.new hu5)));have HR:=qqh HY.o.2.2.1;clear hu5 hb5 HS HQ HY;go_wp2_with fail
 refine HZ.o.mono ?_;rintro e w6 ⟨rfl,own6,h6,d6⟩;have H6:=Y2 h6 d6;clear h6 d6 HZ;go_wp2
 go_ret
 rw[HR.o];exact⟨rfl,own6,H6.o.1,H6.o.2⟩
end
def CaS.thruF(n:CaN)(b:CaS)(k:Nat)(s:Nat)(x:Bk):CaS×Int:=
 if(b.j4 n s k x).2≠0 then((b.j4 n s k x).1.byp n k,0)else(((b.j4 n s k x).1.ke n k s (crcC x) false).1,0)
def CaS.thruS(n:CaN)(b:CaS)(k:Nat)(s:Nat)(x:Bk):CaS×Int:=
 if(writeR b.bF b.bO b.bP k x).cd≠0 then({b.kf (writeR b.bF b.bO b.bP k x)with st:=turnList b.st (s:Int) 3},(writeR b.bF b.bO b.bP k x).cd)
 else(b.kf (writeR b.bF b.bO b.bP k x)).thruF n k s x
def CaS.thru(n:CaN)(a:CaS)(k:Nat)(x:Bk):CaS×Int:=
 if(a.jZ n).2.2.2≠0 then((a.jZ n).1,(a.jZ n).2.2.2)
 else if(a.jZ n).2.2.1=false then(a.jZ n).1.j3 n k x else(a.jZ n).1.thruS n k (a.jZ n).2.1.toNat x
section
variable{own:Nat->Nat}{w w':World}{c:Nat}{n:CaN}{p:CaP}{a:CaS}{N:Nat}
theorem EA(h:CaAt own w c n p a)(hf:a.Fit N)(hN:N+3*n.pa+n.jo+6<=50000)(ht:a.Tie n none)(k:Nat)(hk:k<n.bl)(x:Bk)(hx:x.length=64):
  Calls prog 242 #[ptr c,.int .i64 (k:Int),.agg (bkC x).toArray] w (zx own w c n p (a.thru n k x).1 (.int .i64 (a.thru n k x).2)):=by
 obtain⟨w1,hw1⟩:=qqe (w.alloc (.cells (bkC x).toArray 60));have hu1:=qqu hw1;have hg1:=qqg hw1;obtain⟨m,hm⟩:=qqe (w.heap.size);have hm0:own m=0:=h.far _ oM;rw[<-hm]at hg1;have h1:=h.new hu1;have d1:=h.jY hu1;have HP:=qqh (Ue h1 hf oM);obtain⟨R,hR⟩:=qqe (a.thru n k x);rw[<-hR];unfold CaS.thru at hR;have hjo:=h.ok.j1;have hft:=hf.takes' h.jg h.nx1 hjo;have htk:=CaS.Tie.jZ ht h.nx1 hjo;generalize a.jZ n=r at*;obtain⟨b,sv,okb,cd⟩:=r;simp only at HP hR hft;have H:=Y9 hm0 d1 hg1 hx hR hft htk hk hN;have HM:=qqh hm;have HW1:=qqh hw1;have hut:=underlying60;have hsi:=zq x hx;clear h hf hx hu1 hg1 h1 hm0 hm hw1 d1 hR hft htk ht hk hN;go_enter func242,ntmps242
 go_wp2_with fail
 rw[<-HW1.o,<-HM.o];refine HP.o.mono ?_;rintro e w2 ⟨rfl,own2,h2,hd2⟩;obtain⟨hm0,hd1,hg1,hx,hR,hft,htk,hk,hN⟩:=H.o;have d2:=hd1.trans hd2;have r2:=hd2.upd.range (zg hg1) (fun h=>h.1 hm0);have hm2:own2 m=0:=(hd2.old m (zd hg1)).trans hm0;clear hm0 hd1 hg1 hd2 HP;by_cases hc:cd=0
 rotate_left
 .have q0:(cd==0)=false:=by simpa using hc
  rw[if_pos hc]at hR;have HY:=Y3 h2 d2 hR;clear h2 d2 hR hx hft htk hk r2 hm2 hN;go_wp2
  go_ret
  rw[HY.o.2.2];exact⟨rfl,own2,HY.o.1,HY.o.2.1⟩
 subst hc;rw[if_neg oe]at hR;rcases htk with⟨hok,-,hrm,s,hs,htie⟩|⟨hok,htie⟩
 rotate_left
 .simp only at hok htie;subst hok;rw[if_pos rfl]at hR;have HB:=qqh (zx.from d2 (tf h2 hft oM htie k hk x hx));have HY:=qqh hR;clear h2 d2 hR hx hft htie hk hm2 hN;go_wp2_with (first
   |(refine qYy rfl _ _ rfl _ _ rfl _ _ r2 hut rfl hsi ?_)
   |fail)
  rw[<-HY.o]at HB;refine HB.o.mono ?_;rintro e w3 ⟨rfl,own3,h3,d3⟩;have H3:=Y2 h3 d3;clear h3 d3 HB r2;go_wp2
  go_ret
  exact⟨rfl,own3,H3.o.1,H3.o.2⟩
 simp only at hok hs htie hrm;subst hok hs;rw[if_neg de,qxt]at hR;unfold CaS.thruS at hR;have hsl:=htie.olt s rfl;obtain⟨-,e0,-,-,-,-,-,-,-⟩:=h2.cells;have hu2:=(uur (fun _=>False) w2).drew;have HWr:=qqh (vI (h2.new hu2) k (by rw[h2.gl];exact hk) x hx (by have:=hft.bO;omega));have hfb:=hft.bw k x;generalize hrr:writeR b.bF b.bO b.bP k x=r at*;have H2:=Y11 (d2.trans (h2.jY hu2)) hm2 hR hfb htie hrm hk hx h2.nx1 h2.ok hN;clear h2 d2 hm2 hR hfb htie hrm hk hx hft hsl hN hrr hu2;go_upto_region 6 with fail
 refine qZb (S:=fun W=>W.cell? ⟨c,15,none⟩=some (ptr p.back)/\W.rangeAt m 0 (bkC x)) kR (by(simp only[qYh,qYj]);exact⟨e0,r2⟩) (fun hHeld=>?_);refine Wl.i [0,1,2,3,4] ?_;iterate 5 refine Wl.t hHeld ?_
 refine Wl.o ?_;refine Wl.l 5 (fun w h=>h.2) hut hsi hHeld ?_;refine Wl.r 6 (fun K hK=>?_);go_simp
 refine HWr.out.mono ?_;rintro e w3 ⟨rfl,own3,h3,hd3⟩;obtain⟨-,i0,-,-,-,-,-,-,-⟩:=h3.cells;have r3:=hd3.upd.range (show w2.drew.rangeAt m 0 (bkC x) by rw[qYj];exact r2) (fun h=>h.1 H2.o.2.1);have hm3:own3 m=0:=(hd3.old m (qYg w2 _ (r2 0 _ (by rw[qyj (by rw[zm,H2.o.2.2.2.2.2.2.2.1];omega)])))).trans H2.o.2.1;have H3:=Y3 h3 (H2.o.1.trans hd3) hm3;clear h3 hd3 hm3;refine hK.o _ _ (⟨i0,r3⟩) (fun hH1=>?_);clear hK K;refine Wl.r 7 (fun K hK=>?_);go_simp
 refine hK.o _ _ (hH1) (fun hH2=>?_);clear hK K;refine Wl.d ?_;clear hHeld hH1 hH2 i0 r2 e0 HWr;obtain⟨-,-,hR,hfb,htie,hrm,hk,hx,hnx,hok,hN⟩:=H2.o;obtain⟨h3,d3,hm3⟩:=H3.o;obtain⟨rcd,hrcd⟩:=qqe (r.cd);rw[<-hrcd]at hR⊢;clear H2 H3;by_cases hc:rcd=0
 rotate_left
 .have q0:(rcd==0)=false:=by simpa using hc
  rw[if_pos hc]at hR;have HT:=qqh (zx.from d3 (yX h3 (s:Int) 3));obtain⟨-,-,-,-,-,cS,-,-,-⟩:=h3.cells;have HY:=qqh hR;clear h3 d3 hm3 hR hfb htie hrm hk hx hnx hok hN r3 hrcd;go_wp2_with fail
  refine HT.o.mono ?_;rintro e w4 ⟨rfl,own4,h4,d4⟩;have H4:=Y2 h4 d4;clear h4 d4 HT cS;go_wp2
  go_ret
  rw[HY.o];exact⟨rfl,own4,H4.o.1,H4.o.2⟩
 subst hc;rw[if_neg oe]at hR;replace htie:(b.kf r).Tie n (some s):=htie;replace hrm:(b.kf r).next+1<=(b.kf r).cov+n.jo:=hrm;replace hnx:1<=(b.kf r).next:=hnx;generalize hbb:b.kf r=bb at*;unfold CaS.thruF at hR;have hsl:=htie.olt s rfl;have HF:=qqh (VT h3 s hsl (k:Int) (.inr ⟨oM,oM⟩) x hx (by have:=hfb.dO;omega));have hff:=hfb.j4 (n:=n) s (k:Int) x;have htf:=CaS.Tie.j4 htie (k:Int) x;have hnf:=xI n bb s (k:Int) x;generalize CaS.j4 n bb s (k:Int) x=r at*;obtain⟨b2,cd2⟩:=r;simp only at HF hR hff htf hnf;have H2:=Y12 d3 hm3 hR hff htf hnf hrm hk hx hnx hok hN;clear h3 d3 hm3 hR hff htf hnf hrm hk hx htie hfb hsl hN hnx hok hrcd hbb;go_wp2_with (first
  |(refine qYy rfl _ _ rfl _ _ rfl _ _ r3 hut rfl hsi ?_)
  |fail)
 refine HF.o.mono ?_;rintro e w4 ⟨rfl,own4,h4,hd4⟩;obtain⟨d3,hm3,hR,hff,htf,hnf,hrm,hk,hx,hnx,hok,hN⟩:=H2.o;have d4:=d3.trans hd4;have r4:=hd4.upd.range r3 (fun h=>h.1 hm3);have hm4:own4 m=0:=(hd4.old m (qYg w3 _ (r3 0 _ oJ))).trans hm3;clear r3 d3 hm3 hd4 HF;rcases htf with⟨hc,htf⟩|⟨hc,htf⟩
 rotate_left
 .have q0:(cd2==0)=false:=by simpa using hc
  rw[if_pos hc]at hR;have HD:=qqh (zx.from d4 (XB h4 hff oM htf k (by rw[hnf.1,hnf.2];omega)));have HY:=qqh hR;clear h4 d4 hR hff htf hnf hrm hk hx hnx hok hN r4 hm4 H2;go_wp2_with fail
  refine HD.o.mono ?_;rintro e w5 ⟨rfl,own5,h5,d5⟩;have H5:=Y2 h5 d5;clear h5 d5 HD;go_wp2
  go_ret
  rw[HY.o];exact⟨rfl,own5,H5.o.1,H5.o.2⟩
 subst hc;rw[if_neg oe]at hR;obtain⟨w5,hw5⟩:=qqe (w4.alloc (.cells #[.slice (some ⟨m,0,none⟩) 64 64] 269));have hu5:=qqu hw5;have h5:=h4.new hu5;have r5:=hu5.range r4 id;have g5:=qqg hw5;have HS:=qqh (vY (cl:=1) x h5.nib (za g5 0) r5 hx oM oM);have hput:=CaS.Tie.put htf hk (crcC x) false;have hle:=hff.nx;have hso:=htf.olt s rfl;have hcl:=vX x;have HQ:Hid (∀own6 w6,CaAt own6 w6 c n p b2->Calls prog 310 #[ptr c,.int .i64 (k:Int),.int .i64 (s:Int),.int .i64 (crcC x:Int),.bool false] w6 (zx own6 w6 c n p (b2.ke n (k:Int) s (crcC x) false).1 (.int .i64 0))):=by
  intro own6 w6 h6;have hmx:maxLen>=60000:=by simp only[maxLen];omega
  have:=VU h6 (k:Int) s (crcC x) false (by rw[hnf.1,hnf.2];omega) oM (Xp false h6.nx1 oM (by have:=hok.j1;omega) ⟨oM,by have:=hok.b2;omega⟩ (by have:=hok.s2;omega) oM) hput.1 (by have:=hff.iN;omega) oM (by have:=hff.mN;omega) (by have:=hff.kN;omega);rw[hput.2.1]at this;exact this
 have HY:=Y4 h5 (d4.trans (h4.jY hu5)) hR hw5;clear h4 d4 hR hff htf hnf hrm hk hx hnx hok hN hu5 h5 r5 g5 hput hle hso hcl hw5 r4;go_wp2_with fail
 rw[<-HY.o.2.2.2];refine HS.o.mono ?_;rintro e w6 ⟨rfl,hb6⟩;have hu6:=qqb hb6;have HZ:=qqh (zx.from (HY.o.2.1.trans (HY.o.1.jY hu6)) (HQ.o _ _ (HY.o.1.new hu6)));have HR:=qqh HY.o.2.2.1;clear hu6 hb6 HS HQ HY;go_wp2_with fail
 refine HZ.o.mono ?_;rintro e w7 ⟨rfl,own7,h7,d7⟩;have H7:=Y2 h7 d7;clear h7 d7 HZ;go_wp2
 go_ret
 rw[HR.o];exact⟨rfl,own7,H7.o.1,H7.o.2⟩
end
def CaS.kq(n:CaN)(a:CaS)(k:Int)(x:Bk)(md:Int):CaS×Int:=
 if k<0\/(n.bl:Int)<=k then(a,10)else if md<0\/3<=md then(a,1)else if md=0 then a.kj n k.toNat x else if md=1 then a.thru n k.toNat x else a.j3 n k.toNat x
section
variable{own:Nat->Nat}{w w':World}{c:Nat}{n:CaN}{p:CaP}{a:CaS}{N:Nat}
theorem RZ(h:CaAt own w c n p a)(k:Int):Calls prog 176 #[ptr c,.int .i64 k] w fun e w'=>e=.returned (.bool (decide (0<=k)&&decide (k<(n.bl:Int))))/\w'=w:=by
 have s1:=h.sup.2.1;clear h;by_cases h0:0<=k
 .have q0:decide (0<=k)=true:=by simpa using h0
  go_enter func176,ntmps176
  go_wp2
  go_ret
  exact⟨by simp[h0],rfl⟩
 .have q0:decide (0<=k)=false:=by simpa using h0
  go_enter func176,ntmps176
  go_wp2
  go_ret
  exact⟨oe,rfl⟩
abbrev fnV(f:Nat):Value:=.func (.func f) #[] #[]
theorem Sa(w:World):Calls prog 177 #[] w fun e w'=>e=.returned (.agg #[fnV 241,fnV 242,fnV 178])/\Below w.heap.size w w':=by
 go_enter func177,ntmps177
 go_wp2
 have hr:=zg (zc w (.cells [fnV 241,fnV 242,fnV 178].toArray 271) rfl);exact qYp (zv rfl _ _ w.heap.size 0 _ _ rfl hr underlying271 rfl kR) rfl ⟨rfl,(qxl _ _).alloc (qXo _) _⟩
theorem Sb(h:CaAt own w c n p a)(hf:a.Fit N)(hN:N+3*n.pa+n.jo+6<=50000)(ht:a.Tie n none)(k:Int)(x:Bk)(hx:x.length=64)(md:Int):
  Calls prog 107 #[ptr c,.int .i64 k,.agg (bkC x).toArray,.int .i64 md] w (zx own w c n p (a.kq n k x md).1 (.int .i64 (a.kq n k x md).2)):=by
 obtain⟨w1,hw1⟩:=qqe (w.alloc (.cells (bkC x).toArray 60));have hu1:=qqu hw1;have hg1:=qqg hw1;obtain⟨m,hm⟩:=qqe (w.heap.size);have hm0:own m=0:=h.far _ oM;rw[<-hm]at hg1;have h1:=h.new hu1;have d1:=h.jY hu1;have HT:=qqh (RZ h1 k);obtain⟨R,hR⟩:=qqe (a.kq n k x md);rw[<-hR];unfold CaS.kq at hR;have HM:=qqh hm;have HM0:=qqh hm0;have HW1:=qqh hw1;have hut:=underlying60;have hsi:=zq x hx;have H:=Y8 h1 d1 hg1 hR hf hN ht hx;clear h hf hN ht hx hu1 hg1 hm0 h1 d1 hR hm hw1;obtain⟨tb,htb⟩:=qqe ((decide (0<=k)&&decide (k<(n.bl:Int))));rw[<-htb]at HT;cases tb with
 |false=>
  replace htb:=qqh htb;go_enter func107,ntmps107
  go_wp2_with fail
  rw[<-HW1.o];refine HT.o.mono ?_;rintro e w2 ⟨rfl,hw2⟩;subst hw2;have hR:=H.o.2.2.2.1;rw[if_pos (by have:=htb.out;simp at this;omega)]at hR;have HY:=qqh hR;clear hR HT htb;go_wp2
  go_ret
  rw[HY.o];exact⟨rfl,own,H.o.1,H.o.2.1⟩
 |true=>
  have hkr:0<=k/\k<(n.bl:Int):=by simpa using htb.symm
  have hR:=H.o.2.2.2.1;rw[if_neg oM]at hR;have HK:=qqh hkr;clear htb hkr;replace hR:=qqh hR;go_enter func107,ntmps107
  go_wp2_with fail
  rw[<-HW1.o];refine HT.o.mono ?_;rintro e w2 ⟨rfl,hw2⟩;subst hw2;clear HT;go_wp2_with fail
  refine(Sa w2).mono ?_;rintro e w3 ⟨rfl,hb3⟩;obtain⟨h1,d1,hg1,-,hf,hN,ht,hx⟩:=H.o;have hu3:=qqb hb3;obtain⟨w4,hw4⟩:=qqe (w3.alloc (.cells #[fnV 241,fnV 242,fnV 178] 271));have hu4:=qqu hw4;have g4:=qqg hw4;have hu:=hu3.trans hu4;have h4:=h1.new hu;have d4:=d1.trans (h1.jY hu);have r4:=hu.range (zg hg1) id;have hud:=(uur (fun _=>False) w4).drew;obtain⟨tb,htb⟩:=qqe (w3.heap.size);rw[<-htb]at g4;have f0:=za g4 0;have f1:=za g4 1;have f2:=za g4 2;simp at f0 f1 f2;have H4:=Y2 (h4.new hud) (d4.trans (h4.jY hud));have H4u:=Y2 h4 d4;have HO:=Y2 (h1.far tb (by have:=hu3.size;omega)) HM0.o;have HF:=Y6 hf hN ht hx hw4 htb;clear h1 d1 hg1 hf hN ht hx hb3 hu3 hu4 g4 hu h4 d4 hud H hw4 htb;by_cases q0:md<0
  .have hR':=hR.out;rw[if_pos oM]at hR';replace hR':=qqh hR';go_wp2
   go_ret
   rw[<-HF.o.2.2.2.2.1,hR'.out];exact⟨rfl,own,H4u.out.1,H4u.out.2⟩
  by_cases q1:3<=md
  .have hR':=hR.out;rw[if_pos oM]at hR';replace hR':=qqh hR';have q2:decide (md<0)=false:=by simpa using q0
   go_wp2
   go_ret
   rw[<-HF.o.2.2.2.2.1,hR'.out];exact⟨rfl,own,H4u.out.1,H4u.out.2⟩
  have hR':=hR.out;rw[if_neg oM]at hR';have hkn:((k.toNat:Nat):Int)=k:=Int.toNat_of_nonneg HK.o.1;have hkb:k.toNat<n.bl:=by have:=HK.o.2;omega
  rcases(show md=0\/md=1\/md=2 by omega)with rfl|rfl|rfl
  .rw [if_pos rfl]at hR';have HB:=qqh (Ez H4.o.1 HF.o.1 (by have:=HF.o.2.1;omega) HF.o.2.2.1 k.toNat hkb x HF.o.2.2.2.1);rw[hkn,<-hR']at HB;replace hkn:=qqh hkn;clear hR' hR;go_upto_region 8 with fail
   rw[<-HF.o.2.2.2.2.1,<-HF.o.2.2.2.2.2,<-HM.o];refine qZb (S:=fun W=>W.cell? ⟨tb,0,none⟩=some (fnV 241)/\W.rangeAt m 0 (bkC x)) kR (by(simp only[qYh,qYj]);exact⟨f0,r4⟩) (fun hHeld=>?_);refine Wl.i [0,1,2,3,4] ?_;iterate 5 refine Wl.t hHeld ?_
   refine Wl.o ?_;refine Wl.l 5 (fun w h=>h.2) hut hsi hHeld ?_;refine Wl.r 6 (fun K hK=>?_);go_simp
   refine HB.o.mono ?_;rintro e w5 ⟨rfl,own5,h5,d5⟩;have e5:w5.cell? ⟨tb,0,none⟩=some (fnV 241)/\w5.rangeAt m 0 (bkC x):=⟨d5.upd.jS hHeld.1 (fun h=>h.1 HO.o.1),d5.upd.range hHeld.2 (fun h=>h.1 HO.o.2)⟩
   have H5:=Y2 h5 (H4.o.2.trans d5);clear h5 d5;refine hK.o _ _ (e5) (fun hH1=>?_);clear hK K;refine Wl.r 7 (fun K hK=>?_);go_simp
   refine hK.o _ _ (hH1) (fun hH2=>?_);clear hK K;refine Wl.d ?_;go_wp2
   go_ret
   exact⟨rfl,own5,H5.o.1,H5.o.2⟩
  .rw [if_neg de,if_pos rfl]at hR';have HB:=qqh (EA H4.o.1 HF.o.1 (by have:=HF.o.2.1;omega) HF.o.2.2.1 k.toNat hkb x HF.o.2.2.2.1);rw[hkn,<-hR']at HB;replace hkn:=qqh hkn;clear hR' hR;go_upto_region 8 with fail
   rw[<-HF.o.2.2.2.2.1,<-HF.o.2.2.2.2.2,<-HM.o];refine qZb (S:=fun W=>W.cell? ⟨tb,1,none⟩=some (fnV 242)/\W.rangeAt m 0 (bkC x)) kR (by(simp only[qYh,qYj]);exact⟨f1,r4⟩) (fun hHeld=>?_);refine Wl.i [0,1,2,3,4] ?_;iterate 5 refine Wl.t hHeld ?_
   refine Wl.o ?_;refine Wl.l 5 (fun w h=>h.2) hut hsi hHeld ?_;refine Wl.r 6 (fun K hK=>?_);go_simp
   refine HB.o.mono ?_;rintro e w5 ⟨rfl,own5,h5,d5⟩;have e5:w5.cell? ⟨tb,1,none⟩=some (fnV 242)/\w5.rangeAt m 0 (bkC x):=⟨d5.upd.jS hHeld.1 (fun h=>h.1 HO.o.1),d5.upd.range hHeld.2 (fun h=>h.1 HO.o.2)⟩
   have H5:=Y2 h5 (H4.o.2.trans d5);clear h5 d5;refine hK.o _ _ (e5) (fun hH1=>?_);clear hK K;refine Wl.r 7 (fun K hK=>?_);go_simp
   refine hK.o _ _ (hH1) (fun hH2=>?_);clear hK K;refine Wl.d ?_;go_wp2
   go_ret
   exact⟨rfl,own5,H5.o.1,H5.o.2⟩
  .rw [if_neg de,if_neg de]at hR';have HB:=qqh (tf H4.o.1 HF.o.1 (by have:=HF.o.2.1;omega) HF.o.2.2.1 k.toNat hkb x HF.o.2.2.2.1);rw[hkn,<-hR']at HB;replace hkn:=qqh hkn;clear hR' hR;go_upto_region 8 with fail
   rw[<-HF.o.2.2.2.2.1,<-HF.o.2.2.2.2.2,<-HM.o];refine qZb (S:=fun W=>W.cell? ⟨tb,2,none⟩=some (fnV 178)/\W.rangeAt m 0 (bkC x)) kR (by(simp only[qYh,qYj]);exact⟨f2,r4⟩) (fun hHeld=>?_);refine Wl.i [0,1,2,3,4] ?_;iterate 5 refine Wl.t hHeld ?_
   refine Wl.o ?_;refine Wl.l 5 (fun w h=>h.2) hut hsi hHeld ?_;refine Wl.r 6 (fun K hK=>?_);go_simp
   refine HB.o.mono ?_;rintro e w5 ⟨rfl,own5,h5,d5⟩;have e5:w5.cell? ⟨tb,2,none⟩=some (fnV 178)/\w5.rangeAt m 0 (bkC x):=⟨d5.upd.jS hHeld.1 (fun h=>h.1 HO.o.1),d5.upd.range hHeld.2 (fun h=>h.1 HO.o.2)⟩
   have H5:=Y2 h5 (H4.o.2.trans d5);clear h5 d5;refine hK.o _ _ (e5) (fun hH1=>?_);clear hK K;refine Wl.r 7 (fun K hK=>?_);go_simp
   refine hK.o _ _ (hH1) (fun hH2=>?_);clear hK K;refine Wl.d ?_;go_wp2
   go_ret
   exact⟨rfl,own5,H5.o.1,H5.o.2⟩
end
def CaS.readS(n:CaN)(a:CaS)(k:Int)(s:Nat):CaS×Bk×Int:=
 if fate a.dP=1 then({a with dP:=a.dP.tail},zB,19)
 else if crcC (curB a.dF a.dO (n.j8+s))=(a.sums k).getD 0 then({a with dP:=a.dP.tail},curB a.dF a.dO (n.j8+s),0)else({a with dP:=a.dP.tail},zB,13)
def CaS.j7(n:CaN)(a:CaS)(k:Int):CaS×Bk×Int:=
 if getC a.ps k=14 then({a with bP:=a.bP.tail},(if fate a.bP=1 then zB else curB a.bF a.bO k.toNat),(if fate a.bP=1 then 19 else 0))
 else if getC a.ps k≠0 then(a,zB,getC a.ps k)else a.readS n k (getV a.ps k).1.toNat
section
variable{own own2:Nat->Nat}{w w' W2:World}{c m:Nat}{n:CaN}{p:CaP}{a:CaS}{N:Nat}
theorem xN(h:CaAt own2 W2 c n p a)(d:Did own own2 w W2)(hm0:own2 m=0)(hm:w.heap.size<=m)(h1:m≠0)(h2:m≠1)(cs:List Value):CaAt own2 (W2.setCells m 0 cs) c n p a/\Did own own2 w (W2.setCells m 0 cs):=
 ⟨h.j9 (zo W2 m 0 cs) (fun j e=>by subst e;exact⟨hm0,h1,h2⟩),⟨d.upd.new (zo W2 m 0 cs) (fun i hi e=>oM),d.old,d.new,fun j hj=>d.far j (by have:=(zo W2 m 0 cs).size;omega)⟩⟩
theorem yK{W:World}{g:Nat}{cs:List Value}{t:TypeId}(hg:W.heap[g]?=some (.cells cs.toArray t (0,0)))(hc:cs.length=64):W.there g 0 64:=fun j hj=>by
 rw[za hg,zf hg];exact⟨by rw[qXx,qxe (by simp[hc];omega)];rfl,rfl⟩
theorem EB(h:CaAt own w c n p a)(k:Int):
  Calls prog 104 #[ptr c,.int .i64 k] w (WC own w c n p (a.j7 n k).1 (a.j7 n k).2.1 (a.j7 n k).2.2):=by
 obtain⟨R,hR⟩:=qqe (a.j7 n k);rw[<-hR];unfold CaS.j7 at hR;obtain⟨w1,hw1⟩:=qqe (w.alloc (.cells (bkC zB).toArray 60));have hu1:=qqu hw1;have hg1:=qqg hw1;obtain⟨m,hm⟩:=qqe (w.heap.size);have hm0:own m=0:=h.far _ oM;rw[<-hm]at hg1;have h1:=h.new hu1;have d1:=h.jY hu1;have hcl:=h.clt;have HL:=Y3 h.nib.lt h.tur.lt hm;have HG:=qqh (WD h1 k);obtain⟨-,-,-,-,d4,-,-,-,-⟩:=h.cells;have H:=Y4 d1 hg1 hm0 hR;have HW1:=qqh hw1;clear h1 h hu1 hg1 hm0 d1 hm hw1 hR;obtain⟨Z,hZ⟩:=qqe (zB);have hZl:Z.length=64:=by rw[hZ];rfl
 have HZ:=Y2 hZ (yT Z hZ);clear hZ;go_enter func104,ntmps104
 go_wp2_with fail
 rw[zcm,<-HW1.o,<-HL.o.2.2];refine HG.o.mono ?_;rintro e w2 ⟨rfl,own2,h2,hd2⟩;have g2:=(hd2.upd.block m (zd H.o.2.1) (fun h=>h.1 H.o.2.2.1)).trans H.o.2.1;have hmo:own2 m=0:=(hd2.old m (zd H.o.2.1)).trans H.o.2.2.1;have d2:=H.o.1.trans hd2;have hR:=H.o.2.2.2;have hm1:m≠0:=fun e=>by have:=HL.o.1;have:=HL.o.2.2;omega
 have hm2:m≠1:=fun e=>by have:=HL.o.2.1;have:=HL.o.2.2;omega
 have HM:=Y3 hm1 hm2 (show w.heap.size<=m by have:=HL.o.2.2;omega);clear HG d4 hd2 H hm1 hm2;generalize hgv:getV a.ps k=pv at*;obtain⟨s,db⟩:=pv;simp only at hR;obtain⟨w3,hw3⟩:=qqe (w2.alloc (.cells #[.int .i64 s,.bool db] 256));have hu3:=qqu hw3;have h3:=h2.new hu3;have d3:=d2.trans (h2.jY hu3);have g3:=hu3.jT g2;have gp:=qqg hw3;have HW3:=qqh hw3;obtain⟨pb,hpb⟩:=qqe (w2.heap.size);have hpo:own2 pb=0:=h2.far _ oM;rw[<-hpb]at gp;have hpm:pb≠m:=by have:=zd g2;omega
 have HPB:=qqh hpb;have hcl2:=h2.clt;obtain⟨b0,b1,-,-,-,-,-,-,-⟩:=h2.cells;clear h2 d2 g2 hu3 hw3 hpb hcl;generalize hgc:getC a.ps k=cd at*;by_cases hc14:cd=14
 .subst hc14;rw[if_pos rfl]at hR;obtain⟨kn,rfl,hkn⟩:∃kn:Nat,k=(kn:Int)/\kn<a.bF.length:=by
   have h1:=h3.pl;have h2:=h3.gl;unfold getC at hgc;split at hgc
   .cases hgc
   .exact ⟨k.toNat,oM,oM⟩
  have HRd:=qqh (ZJ h3 kn hkn);have HX:=Y4 d3 g3 hmo hR;clear h3 d3 g3 hmo hR gp hgc hgv hpo hkn hpm;go_wp2_with fail
  rw[<-HW3.o];refine HRd.out.mono ?_;rintro e w4 ⟨y,cd,hy,hcd,hyl,rfl,own4,h4,hd4⟩;obtain⟨d3,g3,hmo,hR⟩:=HX.o;have g4:=(hd4.upd.block m (zd g3) (fun h=>h.1 hmo)).trans g3;have hth:=yK g4 jK;have hmo4:own4 m=0:=(hd4.old m (zd g3)).trans hmo;obtain⟨h5,d5⟩:=xN h4 (d3.trans hd4) hmo4 HM.o.2.2 HM.o.1 HM.o.2.1 (bkC y);have H5:=Y6 h5 d5 hR hy hcd hyl;clear h4 hd4 d3 g3 hmo hR g4 hmo4 h5 d5 HRd HX hy hcd;go_wp2_with (first
   |(refine qZa rfl _ _ _ rfl _ _ (bkC y).toArray rfl rfl oY oC (qYn (zu _)) ?_)
   |fail)
  obtain⟨h5,d5,hR,hy,hcd,-⟩:=H5.o;refine qYp (zp rfl _ _ m 0 (bkC y) _ rfl (qYk _ _ _ _ ji) underlying60 rfl (zq y hyl)) rfl ?_;rw[hR];exact⟨y,cd,by rw[hy];rfl,hcd,hyl,rfl,own4,h5,d5⟩
 by_cases hc:cd=0
 rotate_left
 .rw [if_neg hc14,if_pos hc]at hR;have q0:(cd==14)=false:=by simpa using hc14
  have q1:(cd==0)=false:=by simpa using hc
  have hth:=yK g3 jK;obtain⟨h5,d5⟩:=xN h3 d3 hmo HM.o.2.2 HM.o.1 HM.o.2.1 (bkC Z);have H5:=Y3 h5 d5 hR;clear h3 d3 g3 hmo hR gp hgc hgv hpo h5 d5;rw[HW3.o]at hth;go_wp2_with (first
   |(refine zO rfl rfl HZ.o.2 ?_)
   |(refine qZa rfl _ _ _ rfl _ _ (bkC Z).toArray rfl rfl oI oL (qYn (zu _)) ?_)
   |fail)
  obtain⟨h5,d5,hR⟩:=H5.o;rw[<-HW3.o]at hth⊢;refine qYp (zp rfl _ _ m 0 (bkC Z) _ rfl (qYk _ _ _ _ oS) underlying60 rfl (zq Z hZl)) rfl ?_;rw[hR];exact⟨Z,cd,HZ.o.1,rfl,hZl,rfl,own2,h5,d5⟩
 subst hc;rw[if_neg de,if_neg de]at hR;unfold CaS.readS at hR;obtain⟨vi,mi,hix,-,-⟩:=h3.ix;obtain⟨kn,hkn,hkk,hs0,hs1,hgv2⟩:=sJ hix.good hgc;rw[hgv]at hgv2;have hs0':0<=s:=by have e:=congrArg Prod.fst hgv2;simp only at e;rw[e];exact hs0
 have hs1':s<(n.sl:Int):=by have e:=congrArg Prod.fst hgv2;simp only at e;rw[e];exact hs1
 clear hix hs0 hs1 hgv2 hgv hgc hc14;obtain⟨sn,rfl⟩:∃sn:Nat,s=(sn:Int):=⟨s.toNat,oM⟩
 rw[qxt]at hR;have hk4:k<4096:=by have h1:=h3.pl;have h2:=h3.ok.b2;rw[hkk];omega
 have hk0:0<=k:=by rw[hkk];omega
 clear hkn hkk;have hfl:=h3.fl;have hz:=h3.ok.z;have hsz:n.j8+sn<a.dF.length:=by unfold CaN.size at hfl;unfold CaN.j8;omega
 have hsz2:n.j8+sn<8192:=oM;obtain⟨sc,hsc⟩:=qqe (n.j8+sn);have k1:IntKind.i64.wrap ((n.j8:Int)+(sn:Int))=(sc:Int):=by rw[hsc,qxs];exact qxu _ oM
 have K2:Hid ((n.j8:Int)+(sn:Int)=(sc:Int)):=by show _=_;rw[hsc,qxs]
 rw[<-hsc]at hR hsz;obtain⟨e0,-,-,-,-,-,-,-,-⟩:=h3.cells;obtain⟨-,-,-,e5⟩:=h3.lay;have e5:w3.cell? ⟨c,12,none⟩=some (.int .i64 (n.j8:Int)):=by rw[e5];congr 2
 have ep:=za gp 0;simp at ep;have hpl:=zd gp;have hml:=zd g3;have hud:=((uur (fun _=>False) w3).drew)
 obtain⟨wd,hwd⟩:=qqe (w3.drew);rw[<-hwd]at hud;have hd:=h3.new hud;have dd:=d3.trans (h3.jY hud);have gd:=hud.jT g3;have epd:=hud.jS ep id;have e0d:=hud.jS e0 id;have e5d:=hud.jS e5 id;have hcd:=hd.clt;have hmn:own2 m=0/\own2 pb=0:=⟨hmo,hpo⟩
 have HD:=Y10 hd dd gd hmn hR hsz hpm hk0 hk4 hwd;have hpd:pb<wd.heap.size:=by have:=hud.size;omega
 have hmd:m<wd.heap.size:=by have:=hud.size;omega
 clear h3 d3 g3 hmo hpo gp hR hfl hz hsz hsz2 hsc hpl hml hud hd dd gd hmn hpm hk0 hk4 e0 e5 ep hwd;go_upto_region 8 with fail
 rw[<-HW3.o,<-HPB.o];refine qZb (S:=fun W=>W.cell? ⟨c,14,none⟩=some (ptr p.ssd)/\W.cell? ⟨c,12,none⟩=some (.int .i64 (n.j8:Int))/\W.cell? ⟨pb,0,none⟩=some (.int .i64 (sn:Int))) kR (by rw[<-HD.o.2.2.2.2.2.2.2.2.2];exact⟨e0d,e5d,epd⟩) (fun hHeld=>?_);rw[<-HD.o.2.2.2.2.2.2.2.2.2]at hHeld⊢;refine Wl.i [0,1,2,3,4,5,6,7,8,9,10,11] ?_;iterate 12 refine Wl.t hHeld ?_
 refine Wl.o ?_;refine qYw (rs:=[12,16]) kR oe ?_;refine qxb rfl (fun K hK=>?_) (qxb rfl (fun K hK=>?_) qxc)
 .go_simp
  obtain⟨hd,dd,gd,hmn,hR,hsz,hpm,hk0,hk4,-⟩:=HD.o;refine(tH hd sc hsz).mono ?_;rintro e w4 ⟨y,cd,hy,hcd,hyl,rfl,own4,h4,hd4⟩;have HY:=Y2 hy hcd;clear hy hcd;have g4:=(hd4.upd.block m hmd (fun h=>h.1 hmn.1)).trans gd;have d4:=dd.trans hd4;have hmo4:own4 m=0:=(hd4.old m hmd).trans hmn.1;obtain⟨i0,-,-,-,-,-,-,-,-⟩:=h4.cells;obtain⟨-,-,-,i5⟩:=h4.lay;have i5:w4.cell? ⟨c,12,none⟩=some (.int .i64 (n.j8:Int)):=by rw[i5];congr 2
  have ip:=hd4.upd.jS epd (fun h=>h.1 hmn.2);obtain⟨w5,hw5⟩:=qqe (w4.alloc (.cells (bkC Z).toArray 60));have hu5:=qqu hw5;obtain⟨g,hg⟩:=qqe (w4.heap.size);have gg5:w5.heap[g]?=some (.cells (bkC Z).toArray 60 (0,0)):=by rw[hw5,hg];exact zc w4 _ rfl
  have h5:=h4.new hu5;have d5:=d4.trans (h4.jY hu5);have g5:=hu5.jT g4;have hgo:own4 g=0:=h4.far g oM;have hgm:w.heap.size<=g:=by have:=d4.upd.size;omega
  have hgp:g≠pb:=by have:=hd4.upd.size;omega
  have hgm2:g≠m:=by have:=hd4.upd.size;omega
  have hgc:g≠c:=by have:=h4.clt;omega
  have hgn:g≠0/\g≠1:=by have h1:=h4.nib.lt;have h2:=h4.tur.lt;constructor<;>omega
  have j0:=hu5.jS i0 id;have j5:=hu5.jS i5 id;have jp:=hu5.jS ip id;have HW:=Y2 hw5 hg;clear hw5 hg hu5 h4 d4 hd4 g4 hmn gd dd hd;refine hK.o _ _ (⟨i0,i5,ip⟩) (fun hH1=>?_);clear hK K;refine Wl.i [13,14,15] ?_;iterate 3 refine Wl.t hH1 ?_
  refine Wl.o ?_;refine Wl.r 16 (fun K hK=>?_);refine qH rfl _ rfl _ (wk Z HZ.o.1) ?_;rw[<-HW.o.1,<-HW.o.2];simp only[Act.put,qXd];refine hK.o _ _ (⟨j0,j5,jp⟩) (fun hH2=>?_);clear hK K;refine Wl.r 17 (fun K hK=>?_);rw[if_pos oy];have hthg:=yK gg5 jz;obtain⟨h6,d6⟩:=xN h5 d5 hgo hgm hgn.1 hgn.2 (bkC y);have r6:(w5.setCells g 0 (bkC y)).rangeAt g 0 (bkC y):=qYk _ _ _ _ (by rw[zm,hyl];exact hthg);have hus:=zo w5 g 0 (bkC y);have g6:=(hus.block m (zd g5) (fun e=>hgm2 e.symm)).trans g5;have l0:=hus.jS j0 (fun e=>hgc e.symm);have l5:=hus.jS j5 (fun e=>hgc e.symm);have lp:=hus.jS jp (fun e=>hgp e.symm);refine qZc _ _ _ rfl _ _ (bkC y).toArray rfl rfl (by rw[zn _ hyl];exact hthg) oC (qYn (zu _)) ?_;simp only[Act.put];refine hK.o _ _ (⟨l0,l5,lp⟩) (fun hH3=>?_);clear hK K;refine Wl.r 18 (fun K hK=>?_);go_simp
  refine hK.o _ _ (hH3) (fun _=>?_);clear hK K;refine Wl.d ?_;obtain⟨w6,hw6⟩:=qqe (w5.setCells g 0 (bkC y));rw[<-hw6]at h6 d6 r6 g6⊢;have hgo6:own4 g=0:=hgo;have H6:=Y13 h6 d6 r6 g6 hmo4 hR HY.o.1 HY.o.2 hgo6 hgm hgm2 hk0 hk4;clear h6 d6 r6 g6 hmo4 hR HY hgo6 hgo hgm hgm2 hgp hgn hk0 hk4 h5 d5 gg5 g5 j0 j5 jp i0 i5 ip l0 l5 lp hus hthg hw6 hHeld hH1 hH2 hH3 HW hgc e0d e5d epd;by_cases hc:cd=0
  rotate_left
  .have q0:(cd==0)=false:=by simpa using hc
   obtain⟨h6,d6,-,g6,hmo4,hR,hy,hcd,-⟩:=H6.o;have hf:fate a.dP=1:=by
    refine Decidable.byContradiction fun hf=>?_;rw[if_neg hf]at hcd;exact hc hcd
   rw[if_pos hf]at hR hcd;have hth:=yK g6 jK;obtain⟨h7,d7⟩:=xN h6 d6 hmo4 HM.o.2.2 HM.o.1 HM.o.2.1 (bkC Z);have H7:=Y4 h7 d7 hR hcd;clear h6 d6 g6 hmo4 hR hy hcd h7 d7 hf H6;go_wp2_with (first
    |(refine zO rfl rfl HZ.o.2 ?_)
    |(refine qZa rfl _ _ _ rfl _ _ (bkC Z).toArray rfl rfl oI oL (qYn (zu _)) ?_)
    |fail)
   obtain⟨h7,d7,hR,hcd⟩:=H7.o;refine qYp (zp rfl _ _ m 0 (bkC Z) _ rfl (qYk _ _ _ _ oS) underlying60 rfl (zq Z hZl)) rfl ?_;rw[hR];exact⟨Z,cd,HZ.o.1,hcd,hZl,rfl,own4,h7,d7⟩
  subst hc;obtain⟨h6,d6,r6,g6,hmo4,hR,hy,hcd,hgo6,hgm,hgm2,hk0,hk4⟩:=H6.o;have hf:¬fate a.dP=1:=fun hf=>by rw[if_pos hf]at hcd;cases hcd
  rw[if_neg hf]at hR hy;rw[<-hy]at hR;have hud:=((uur (fun _=>False) w6).drew)
  obtain⟨w7,hw7⟩:=qqe (w6.drew);rw[<-hw7]at hud;obtain⟨w8,hw8⟩:=qqe (w7.alloc (.cells #[.slice (some ⟨g,0,none⟩) 64 64] 269));have hu8:=qqu hw8;have g8:=qqg hw8;have h7:=h6.new hud;have h8:=h7.new hu8;have r8:=hu8.range (hud.range r6 id) id;obtain⟨sm,hsm⟩:=qqe ((a.sums k).getD 0);rw[<-hsm]at hR;have hMM:∀X,Upd (fun _=>False) w6 X->X.cell? ⟨c,22,none⟩=some (.map (some p.sm))/\(Instr.lookup 168 (.map (some p.sm)) (.int .i64 k) false).run prog X=.ok (.int .i64 (sm:Int)) X:=by
   intro X hX;have hCA:=h6.new hX;obtain⟨-,-,-,-,-,-,-,-,c22⟩:=hCA.cells;refine⟨c22,?_⟩;rw[hsm];exact hCA.sm.1.look1 oM oM
  have m7:=hMM _ hud;have m8:=hMM _ (hud.trans hu8);have HS:=qqh (vY (cl:=1) y h8.nib (za g8 0) r8 hyl oM oM);have HM9:Hid (∀w9,Below w8.heap.size w8 w9->(CaAt own4 w9 c n p {a with dP:=a.dP.tail}/\Did own own4 w w9)/\w9.rangeAt g 0 (bkC y)/\w9.heap[m]?=some (.cells (bkC zB).toArray 60 (0,0))/\(w9.cell? ⟨c,22,none⟩=some (.map (some p.sm))/\(Instr.lookup 168 (.map (some p.sm)) (.int .i64 k) false).run prog w9=.ok (.int .i64 (sm:Int)) w9)):=by
   intro w9 hb9;have hu9:=(hud.trans hu8).trans (uuo (S:=fun _=>False) hb9);exact⟨⟨h6.new hu9,d6.trans (h6.jY hu9)⟩,hu9.range r6 id,hu9.jT g6,hMM _ hu9⟩
  have HX:=Y6 hR hmo4 hw7 hw8 hsm hgm2;clear h6 d6 r6 g6 hmo4 hR hy hcd hgo6 hgm hgm2 hf hud hu8 g8 h7 h8 r8 hMM hw7 hw8 hsm H6 hk0 hk4;go_upto_region 11 with fail
  refine qZb (S:=fun W=>W.cell? ⟨c,22,none⟩=some (.map (some p.sm))/\(Instr.lookup 168 (.map (some p.sm)) (.int .i64 k) false).run prog W=.ok (.int .i64 (sm:Int)) W) kR (by rw[<-HX.o.2.2.1];exact m7) (fun _=>?_);rw[<-HX.o.2.2.1];have hHeld:=m7;refine Wl.i [0,3,4,5,6,7,8] ?_;iterate 7 refine Wl.t hHeld ?_
  refine Wl.o ?_;refine Wl.r 1 (fun K hK=>?_);go_simp
  rw[<-HX.o.2.2.2.1];refine hK.o _ _ (m8) (fun hH1=>?_);clear hK K;refine Wl.r 2 (fun K hK=>?_);go_simp
  refine HS.o.mono ?_;rintro e w9 ⟨rfl,hb9⟩;obtain⟨hcd9,r9,g9,m9⟩:=HM9.o w9 hb9;have H9:=Y3 hcd9 r9 g9;refine hK.o _ _ (m9) (fun hH2=>?_);clear hK K;refine Wl.i [9] (Wl.t hH2 (Wl.o ?_));refine Wl.d ?_;clear hHeld hH1 hH2 m7 m8 m9 HS HM9 hb9 hcd9 g9;obtain⟨hR,hmo4,-,-,-,-⟩:=HX.o;have hth:=yK H9.o.2.2 jK;by_cases hq:crcC y=sm
  rotate_left
  .rw [if_neg hq]at hR;have q1:((crcC y:Int)==(sm:Int))=false:=by simpa using fun e=>hq oM
   have q2:((crcC y:Int) !=(sm:Int))=true:=by simp[bne,q1]
   obtain⟨h7,d7⟩:=xN H9.o.1.1 H9.o.1.2 hmo4 HM.o.2.2 HM.o.1 HM.o.2.1 (bkC Z);have H7:=Y3 h7 d7 hR;clear h7 d7 hR hmo4 r9 hq;go_wp2_with (first
    |(refine zO rfl rfl HZ.o.2 ?_)
    |(refine qZa rfl _ _ _ rfl _ _ (bkC Z).toArray rfl rfl oI oL (qYn (zu _)) ?_)
    |fail)
   obtain⟨h7,d7,hR⟩:=H7.o;refine qYp (zp rfl _ _ m 0 (bkC Z) _ rfl (qYk _ _ _ _ oS) underlying60 rfl (zq Z hZl)) rfl ?_;rw[hR];exact⟨Z,13,HZ.o.1,rfl,hZl,rfl,own4,h7,d7⟩
  rw[if_pos hq]at hR;have q1:((crcC y:Int)==(sm:Int))=true:=by rw[hq];simp
  have q2:((crcC y:Int) !=(sm:Int))=false:=by simp[bne,q1]
  obtain⟨h7,d7⟩:=xN H9.o.1.1 H9.o.1.2 hmo4 HM.o.2.2 HM.o.1 HM.o.2.1 (bkC y);have H7:=Y3 h7 d7 hR;clear h7 d7 hR hmo4 hq;go_wp2_with (first
   |(refine qYy rfl _ _ rfl _ _ rfl _ _ r9 underlying60 rfl (zq y hyl) ?_)
   |(refine qZa rfl _ _ _ rfl _ _ (bkC y).toArray rfl rfl oY oC (qYn (zu _)) ?_)
   |fail)
  obtain⟨h7,d7,hR⟩:=H7.o;refine qYp (zp rfl _ _ m 0 (bkC y) _ rfl (qYk _ _ _ _ ji) underlying60 rfl (zq y hyl)) rfl ?_;rw[hR];exact⟨y,0,rfl,rfl,hyl,rfl,own4,h7,d7⟩
 .refine qH rfl _ rfl _ (wk Z HZ.o.1) ?_;simp only[Act.put,qXd];obtain⟨hd,dd,gd,hmn,hR,hsz,hpm,hk0,hk4,-⟩:=HD.o;obtain⟨w4,hw4⟩:=qqe (wd.alloc (.cells (bkC Z).toArray 60));have hu4:=qqu hw4;obtain⟨g,hg⟩:=qqe (wd.heap.size);have gg4:w4.heap[g]?=some (.cells (bkC Z).toArray 60 (0,0)):=by rw[hw4,hg];exact zc wd _ rfl
  rw[<-hw4,<-hg];have i0:=hu4.jS e0d id;have i5:=hu4.jS e5d id;have ip:=hu4.jS epd id;have h4:=hd.new hu4;have d4:=dd.trans (hd.jY hu4);have g4:=hu4.jT gd;have hgo2:own2 g=0:=hd.far g oM;have hgm:w.heap.size<=g:=by have:=dd.upd.size;omega
  have hgp:g≠pb:=oM;have hgm2:g≠m:=oM;have hgc:g≠c:=oM;have hgn:g≠0/\g≠1:=by have h1:=hd.nib.lt;have h2:=hd.tur.lt;constructor<;>omega
  have HQ:=qqh (tH h4 sc hsz);have H4:=Y6 d4 g4 gg4 hgo2 hmn hR;have HW:=Y2 hw4 hg;clear hw4 hg hu4 h4 d4 g4 gg4 hgo2 hmn hR dd gd hd;refine hK.o _ _ (⟨i0,i5,ip⟩) (fun hH1=>?_);clear hK K;refine Wl.r 12 (fun K hK=>?_);go_simp
  refine HQ.o.mono ?_;rintro e w5 ⟨y,cd,hy,hcd,hyl,rfl,own4,h5,hd5⟩;have HY:=Y2 hy hcd;clear hy hcd HQ;obtain⟨d4,g4,gg4,hgo2,hmn,hR⟩:=H4.o;have g5:=(hd5.upd.block m (zd g4) (fun h=>h.1 hmn.1)).trans g4;have gg5:=(hd5.upd.block g (zd gg4) (fun h=>h.1 hgo2)).trans gg4;have d5:=d4.trans hd5;have hmo4:own4 m=0:=(hd5.old m (zd g4)).trans hmn.1;have hgo:own4 g=0:=(hd5.old g (zd gg4)).trans hgo2;obtain⟨j0,-,-,-,-,-,-,-,-⟩:=h5.cells;obtain⟨-,-,-,j5⟩:=h5.lay;have j5:w5.cell? ⟨c,12,none⟩=some (.int .i64 (n.j8:Int)):=by rw[j5];congr 2
  have jp:=hd5.upd.jS ip (fun h=>h.1 hmn.2);clear d4 g4 gg4 hgo2 hmn hd5 H4;refine hK.o _ _ (⟨j0,j5,jp⟩) (fun hH2=>?_);clear hK K;refine Wl.i [13,14,15] ?_;iterate 3 refine Wl.t hH2 ?_
  refine Wl.o ?_;refine Wl.r 17 (fun K hK=>?_);rw[if_pos oy];have hthg:=yK gg5 jz;obtain⟨h6,d6⟩:=xN h5 d5 hgo hgm hgn.1 hgn.2 (bkC y);have r6:(w5.setCells g 0 (bkC y)).rangeAt g 0 (bkC y):=qYk _ _ _ _ (by rw[zm,hyl];exact hthg);have hus:=zo w5 g 0 (bkC y);have g6:=(hus.block m (zd g5) (fun e=>hgm2 e.symm)).trans g5;have l0:=hus.jS j0 (fun e=>hgc e.symm);have l5:=hus.jS j5 (fun e=>hgc e.symm);have lp:=hus.jS jp (fun e=>hgp e.symm);refine qZc _ _ _ rfl _ _ (bkC y).toArray rfl rfl (by rw[zn _ hyl];exact hthg) oC (qYn (zu _)) ?_;simp only[Act.put,qXd];refine hK.o _ _ (⟨l0,l5,lp⟩) (fun hH3=>?_);clear hK K;refine Wl.r 18 (fun K hK=>?_);go_simp
  refine hK.o _ _ (hH3) (fun _=>?_);clear hK K;refine Wl.d ?_;obtain⟨w6,hw6⟩:=qqe (w5.setCells g 0 (bkC y));rw[<-hw6]at h6 d6 r6 g6⊢;have hgo6:own4 g=0:=hgo;have H6:=Y13 h6 d6 r6 g6 hmo4 hR HY.o.1 HY.o.2 hgo6 hgm hgm2 hk0 hk4;clear h6 d6 r6 g6 hmo4 hR HY hgo6 hgo hgm hgm2 hgp hgn hk0 hk4 h5 d5 gg5 g5 j0 j5 jp i0 i5 ip l0 l5 lp hus hthg hw6 hHeld hH1 hH2 hH3 HW hgc e0d e5d epd;by_cases hc:cd=0
  rotate_left
  .have q0:(cd==0)=false:=by simpa using hc
   obtain⟨h6,d6,-,g6,hmo4,hR,hy,hcd,-⟩:=H6.o;have hf:fate a.dP=1:=by
    refine Decidable.byContradiction fun hf=>?_;rw[if_neg hf]at hcd;exact hc hcd
   rw[if_pos hf]at hR hcd;have hth:=yK g6 jK;obtain⟨h7,d7⟩:=xN h6 d6 hmo4 HM.o.2.2 HM.o.1 HM.o.2.1 (bkC Z);have H7:=Y4 h7 d7 hR hcd;clear h6 d6 g6 hmo4 hR hy hcd h7 d7 hf H6;go_wp2_with (first
    |(refine zO rfl rfl HZ.o.2 ?_)
    |(refine qZa rfl _ _ _ rfl _ _ (bkC Z).toArray rfl rfl oI oL (qYn (zu _)) ?_)
    |fail)
   obtain⟨h7,d7,hR,hcd⟩:=H7.o;refine qYp (zp rfl _ _ m 0 (bkC Z) _ rfl (qYk _ _ _ _ oS) underlying60 rfl (zq Z hZl)) rfl ?_;rw[hR];exact⟨Z,cd,HZ.o.1,hcd,hZl,rfl,own4,h7,d7⟩
  subst hc;obtain⟨h6,d6,r6,g6,hmo4,hR,hy,hcd,hgo6,hgm,hgm2,hk0,hk4⟩:=H6.o;have hf:¬fate a.dP=1:=fun hf=>by rw[if_pos hf]at hcd;cases hcd
  rw[if_neg hf]at hR hy;rw[<-hy]at hR;have hud:=((uur (fun _=>False) w6).drew)
  obtain⟨w7,hw7⟩:=qqe (w6.drew);rw[<-hw7]at hud;obtain⟨w8,hw8⟩:=qqe (w7.alloc (.cells #[.slice (some ⟨g,0,none⟩) 64 64] 269));have hu8:=qqu hw8;have g8:=qqg hw8;have h7:=h6.new hud;have h8:=h7.new hu8;have r8:=hu8.range (hud.range r6 id) id;obtain⟨sm,hsm⟩:=qqe ((a.sums k).getD 0);rw[<-hsm]at hR;have hMM:∀X,Upd (fun _=>False) w6 X->X.cell? ⟨c,22,none⟩=some (.map (some p.sm))/\(Instr.lookup 168 (.map (some p.sm)) (.int .i64 k) false).run prog X=.ok (.int .i64 (sm:Int)) X:=by
   intro X hX;have hCA:=h6.new hX;obtain⟨-,-,-,-,-,-,-,-,c22⟩:=hCA.cells;refine⟨c22,?_⟩;rw[hsm];exact hCA.sm.1.look1 oM oM
  have m7:=hMM _ hud;have m8:=hMM _ (hud.trans hu8);have HS:=qqh (vY (cl:=1) y h8.nib (za g8 0) r8 hyl oM oM);have HM9:Hid (∀w9,Below w8.heap.size w8 w9->(CaAt own4 w9 c n p {a with dP:=a.dP.tail}/\Did own own4 w w9)/\w9.rangeAt g 0 (bkC y)/\w9.heap[m]?=some (.cells (bkC zB).toArray 60 (0,0))/\(w9.cell? ⟨c,22,none⟩=some (.map (some p.sm))/\(Instr.lookup 168 (.map (some p.sm)) (.int .i64 k) false).run prog w9=.ok (.int .i64 (sm:Int)) w9)):=by
   intro w9 hb9;have hu9:=(hud.trans hu8).trans (uuo (S:=fun _=>False) hb9);exact⟨⟨h6.new hu9,d6.trans (h6.jY hu9)⟩,hu9.range r6 id,hu9.jT g6,hMM _ hu9⟩
  have HX:=Y6 hR hmo4 hw7 hw8 hsm hgm2;clear h6 d6 r6 g6 hmo4 hR hy hcd hgo6 hgm hgm2 hf hud hu8 g8 h7 h8 r8 hMM hw7 hw8 hsm H6 hk0 hk4;go_upto_region 11 with fail
  refine qZb (S:=fun W=>W.cell? ⟨c,22,none⟩=some (.map (some p.sm))/\(Instr.lookup 168 (.map (some p.sm)) (.int .i64 k) false).run prog W=.ok (.int .i64 (sm:Int)) W) kR (by rw[<-HX.o.2.2.1];exact m7) (fun _=>?_);rw[<-HX.o.2.2.1];have hHeld:=m7;refine Wl.i [0,3,4,5,6,7,8] ?_;iterate 7 refine Wl.t hHeld ?_
  refine Wl.o ?_;refine Wl.r 1 (fun K hK=>?_);go_simp
  rw[<-HX.o.2.2.2.1];refine hK.o _ _ (m8) (fun hH1=>?_);clear hK K;refine Wl.r 2 (fun K hK=>?_);go_simp
  refine HS.o.mono ?_;rintro e w9 ⟨rfl,hb9⟩;obtain⟨hcd9,r9,g9,m9⟩:=HM9.o w9 hb9;have H9:=Y3 hcd9 r9 g9;refine hK.o _ _ (m9) (fun hH2=>?_);clear hK K;refine Wl.i [9] (Wl.t hH2 (Wl.o ?_));refine Wl.d ?_;clear hHeld hH1 hH2 m7 m8 m9 HS HM9 hb9 hcd9 g9;obtain⟨hR,hmo4,-,-,-,-⟩:=HX.o;have hth:=yK H9.o.2.2 jK;by_cases hq:crcC y=sm
  rotate_left
  .rw [if_neg hq]at hR;have q1:((crcC y:Int)==(sm:Int))=false:=by simpa using fun e=>hq oM
   have q2:((crcC y:Int) !=(sm:Int))=true:=by simp[bne,q1]
   obtain⟨h7,d7⟩:=xN H9.o.1.1 H9.o.1.2 hmo4 HM.o.2.2 HM.o.1 HM.o.2.1 (bkC Z);have H7:=Y3 h7 d7 hR;clear h7 d7 hR hmo4 r9 hq;go_wp2_with (first
    |(refine zO rfl rfl HZ.o.2 ?_)
    |(refine qZa rfl _ _ _ rfl _ _ (bkC Z).toArray rfl rfl oI oL (qYn (zu _)) ?_)
    |fail)
   obtain⟨h7,d7,hR⟩:=H7.o;refine qYp (zp rfl _ _ m 0 (bkC Z) _ rfl (qYk _ _ _ _ oS) underlying60 rfl (zq Z hZl)) rfl ?_;rw[hR];exact⟨Z,13,HZ.o.1,rfl,hZl,rfl,own4,h7,d7⟩
  rw[if_pos hq]at hR;have q1:((crcC y:Int)==(sm:Int))=true:=by rw[hq];simp
  have q2:((crcC y:Int) !=(sm:Int))=false:=by simp[bne,q1]
  obtain⟨h7,d7⟩:=xN H9.o.1.1 H9.o.1.2 hmo4 HM.o.2.2 HM.o.1 HM.o.2.1 (bkC y);have H7:=Y3 h7 d7 hR;clear h7 d7 hR hmo4 hq;go_wp2_with (first
   |(refine qYy rfl _ _ rfl _ _ rfl _ _ r9 underlying60 rfl (zq y hyl) ?_)
   |(refine qZa rfl _ _ _ rfl _ _ (bkC y).toArray rfl rfl oY oC (qYn (zu _)) ?_)
   |fail)
  obtain⟨h7,d7,hR⟩:=H7.o;refine qYp (zp rfl _ _ m 0 (bkC y) _ rfl (qYk _ _ _ _ ji) underlying60 rfl (zq y hyl)) rfl ?_;rw[hR];exact⟨y,0,rfl,rfl,hyl,rfl,own4,h7,d7⟩
end
end Go.Proofs.YtpejdgiccaijfaaGreatDoor
