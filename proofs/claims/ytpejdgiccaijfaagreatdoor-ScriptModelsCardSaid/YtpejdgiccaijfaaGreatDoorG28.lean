/- Bounds of what -/
import Derived.Test.YtpejdgiccaijfaaGreatDoorG23
import Derived.Test.YtpejdgiccaijfaaGreatDoorG20
import Derived.Test.YtpejdgiccaijfaaGreatDoorG24
import Derived.Test.YtpejdgiccaijfaaGreatDoorG22
namespace Go.Proofs.YtpejdgiccaijfaaGreatDoor
open Go Go.RowKit Tryz
def Ent.In(e:Ent):Prop:=e.b<=4095/\e.s<=1023/\e.m<=4294967295
theorem WQ{b:Bk}(h:okP b=true):∀e∈pgEnts b,e.In:=by
 intro e he;have hm:=Ub h;obtain⟨-,-,-,-,h4⟩:=yB h;unfold mayP at hm;rw[qxo,qxo]at hm;obtain⟨i,hi,rfl⟩:=qzq.1 he;have hi':=qzs.1 hi;have hb:=hm.2;unfold entsB at hb;have:=qxv.1 hb i (qzs.2 oM);unfold entB at this;have e3:(natsI (numsP b)).getD 3 0=(pgMany b:Int):=zT _ _;rw[e3,if_pos oM]at this;have hl:(natsI (numsP b)).length=20:=by simp[natsI,numsP,zP,Vz]
 have hrl:(rowI (natsI (numsP b)) i).length=4:=xR hl oM;have w0:=zV this (i:=0) de oM;have w1:=zV this (i:=1) de oM;have w3:=zV this (i:=3) de oM;have e:∀j (hj:j<(rowI (natsI (numsP b)) i).length),(rowI (natsI (numsP b)) i)[j]=((numsP b).getD (4+4*i+j) 0:Nat):=fun j hj=>by
  rw[<-zT,<-xu _ _ _ oM,qyf,qyj hj];rfl
 rw[e]at w0 w1 w3;simp only[bndE,qys,qyr]at w0 w1 w3;unfold Ent.In tI;dsimp only;rw[qXm]at w0;omega
theorem WR{l:List Bk}(h:readOk l=true):(∀e∈readEs l,e.In)/\(readEs l).length<=4*l.length/\readSeq l<=1099511627776:=by
 unfold readOk at h;rw[qxo,qxo]at h;have hof:=of_decide_eq_true h.2.1;have hok:∀i<readOf l,okP (l.getD i zB)=true:=fun i hi=>by
  have:=qxv.1 h.2.2 i (qzs.2 oM);unfold goesP at this;rw[if_neg oM,qxo]at this;exact this.1
 refine⟨fun e he=>?_,?_,(yB h.1).1⟩
 .obtain ⟨i,hi,hie⟩:=qzp.1 he;exact WQ (hok i (qzs.1 hi)) e hie
 .have:∀k≤readOf l,(entsTo l k).length<=4*k:=by
   intro k
   induction k with
   |zero=>intro _;exact qXo _
   |succ k ih=>
    intro hk;have:=ih oM;have h4:=(yB (hok k oM)).2.2.2.2;unfold entsTo at this⊢;rw[qXc,qyd,qyy];simp only[qye,List.flatMap_nil,qxx,pgEnts,qzb,List.length_range];simp only[pgEnts]at this;omega
  have:=this _ (qXo _);show(entsTo l (readOf l)).length<=_;omega
theorem EP(F:List Bk)(O:List (Nat×Bk))(base m:Nat)(hl:∀B,(secsOf F O B m).length=m):∀k,(∀e∈(nwS F O base m k).2.2.2,e.In)/\(nwS F O base m k).2.2.2.length<=4*m/\(nwS F O base m k).2.2.1<=1099511627776:=by
 intro k
 induction k with
 |zero=>exact⟨fun e h=>by simp[nwS]at h,by simp[nwS],by simp[nwS]⟩
 |succ k ih=>
  rw[nwS];split
  .rename_i h
   rw[qxo]at h;obtain⟨h1,h2,h3⟩:=WR h.1;rw[hl]at h2;exact⟨h1,h2,h3⟩
  .exact ih
theorem rG(F:List Bk)(O:List (Nat×Bk))(base n:Nat):∀k,∀r∈scanTo F O base n k,rseq r<=1099511627776/\r.getD 3 0<=4095/\r.getD 4 0<=1023:=by
 intro k
 induction k with
 |zero=>intro r h;cases h
 |succ k ih=>
  intro r h;rw[scanTo,qzl]at h;rcases h with h|h
  .exact ih r h
  .unfold scL at h;split at h
   .rename_i hs
    unfold Sg at hs;rw[qxo]at hs;have hb:=rk hs.1;rw[qzt]at h;subst h;exact⟨hb.2.1,hb.2.2.2.2.1,hb.2.2.2.2.2.1⟩
   .cases h
theorem EQ(L:List (List Nat))(after:Nat):∀r∈(repS L after).d,r∈L:=by
 have:∀(L:List (List Nat)) (s:RepS),∀r∈(L.foldl repStep s).d,r∈L\/r∈s.d:=by
  intro L
  induction L with
  |nil=>intro s r h;exact .inr h
  |cons x L ih=>
   intro s r h;rcases ih _ r h with h|h
   .exact .inl (qzn _ h)
   .unfold repStep at h;split at h
    .rw [qzl,qzt]at h;rcases h with h|rfl
     .exact .inr h
     .exact .inl qzo
    .exact .inr h
 intro r h;rcases this L _ r h with h|h
 .exact h
 .cases h
def Ent.toI(e:Ent):EI:=⟨e.b,e.s,e.d,e.m⟩
theorem XG(L:List Ent):(L.map Ent.toI).flatMap EI.cs=L.flatMap entC:=by
 rw[List.flatMap_map];rfl
theorem WS(L:List (List Nat)):(L.map natsI).flatMap dsR=L.flatMap recCs:=by
 rw[List.flatMap_map];rfl
def CaS.ldE(n:CaN)(a:CaS)(x:Ent):CaS:={a with iN:=a.iN+1,ps:=vN a.ps n.sl (x.b:Int) (x.s:Int) x.d,st:=turnList (turnList a.st (x.s:Int) 1) (x.s:Int) 2,G:=Zv (scrubG a.G x.s) x.s (x.b:Int),kN:=a.kN+1,K:=rS n.sl a.K (x.b:Int),A:=UT n.sl a.K a.A a.H (x.b:Int),H:=UU n.sl a.K a.H (x.b:Int),mN:=a.mN+1,sums:=xP a.sums (x.b:Int) (some x.m)}
def CaS.ldTo(n:CaN)(a:CaS)(L:List Ent):CaS:=L.foldl (CaS.ldE n) a
section
variable{n:CaN}{a:CaS}
theorem CaS.Tie.ldE(h:a.Tie n none)(x:Ent)(hb:x.b<n.bl)(hs:x.s<n.sl)(h0:a.st.getD x.s 0=0)(hp:plc a.ps x.b=(-1,false)):
  putC a.ps n.sl (x.b:Int) (x.s:Int)=0/\um a.ps n.sl (x.b:Int) (x.s:Int)=(-1,false)/\(a.ldE n x).Tie n none/\(a.ldE n x).ps=a.ps.set x.b ((x.s:Int),x.d)/\(a.ldE n x).st=a.st.set x.s 2:=by
 obtain⟨-,e1⟩:=vv (l:=a.st) (s:=x.s) (t:=1) jE de (by rw[h0];decide);have h1:TieL n.bl n.sl a.ps (a.st.set x.s 1) a.K (some x.s):=TieL.turned h hs (by rw[h0];decide) de ⟨de,de⟩ (fun r hr=>by
  by_cases e:r=x.s
  .subst e;simp
  .rw [if_neg e];have e2:¬x.s=r:=fun h=>e h.symm;simp[e2]) (fun r hr=>by cases hr;exact hs)
 obtain⟨p1,p2,p3,p4,p5,-⟩:=TieL.put h1 hb x.d;obtain⟨k1,k2,k3⟩:=p5 hp;have hst:(a.ldE n x).st=a.st.set x.s 2:=by
  show turnList (turnList a.st (x.s:Int) 1) (x.s:Int) 2=_;rw[e1,p4,List.set_set]
 refine⟨TieL.putC h1 hb,p2.trans hp,?_,p1,hst⟩;show TieL n.bl n.sl (a.ldE n x).ps (a.ldE n x).st (a.ldE n x).K none;rw[hst,show(a.ldE n x).ps=_ from p1,show(a.ldE n x).K=a.K++[(x.b:Int)] by show rS n.sl a.K (x.b:Int)=_;unfold rS;rw[if_neg (by simp[k1,k2])]];rw[List.set_set]at k3;exact k3
structure CaS.Ld(n:CaN)(a:CaS)(L:List Ent)(b:CaS):Prop where
 tie:b.Tie n none
 got:∀x∈L,plc b.ps x.b=((x.s:Int),x.d)/\b.sums (x.b:Int)=some x.m/\b.st.getD x.s 0=2
 blk:∀k:Nat,(∀x∈L,x.b≠k)->plc b.ps k=plc a.ps k/\b.sums (k:Int)=a.sums (k:Int)
 slt:∀s:Nat,(∀x∈L,x.s≠s)->b.st.getD s 0=a.st.getD s 0
 num:b.iN=a.iN+L.length/\b.kN=a.kN+L.length/\b.mN=a.mN+L.length
 oth:b.which=a.which/\b.dF=a.dF/\b.dO=a.dO/\b.dP=a.dP/\b.bF=a.bF/\b.bO=a.bO/\b.bP=a.bP/\b.cov=a.cov/\b.next=a.next/\b.W=a.W
theorem CaS.ldTo_ok:∀(L:List Ent) {a:CaS},a.Tie n none->(∀x∈L,x.b<n.bl/\x.s<n.sl)->(L.map (·.s)).Nodup->(L.map (·.b)).Nodup->(∀x∈L,a.st.getD x.s 0=0/\plc a.ps x.b=(-1,false))->CaS.Ld n a L (a.ldTo n L)
 |[],a,h,_,_,_,_=>⟨h,fun x hx=>(by cases hx),fun _ _=>⟨rfl,rfl⟩,fun _ _=>rfl,⟨rfl,rfl,rfl⟩,⟨rfl,rfl,rfl,rfl,rfl,rfl,rfl,rfl,rfl,rfl⟩⟩
 |x::L,a,h,hr,hs,hb,hf=>by
  obtain⟨r1,r2⟩:=hr x qzo;obtain⟨f1,f2⟩:=hf x qzo;obtain⟨-,-,e3,e4,e5⟩:=CaS.Tie.ldE h x r1 r2 f1 f2;rw[qzh,qzw]at hs hb;have hps:∀k,plc (a.ldE n x).ps k=if k=x.b then((x.s:Int),x.d)else plc a.ps k:=fun k=>by rw[e4,ZN _ _ _ _ (by rw[h.hpl];exact r1)]
  have hst:∀s,(a.ldE n x).st.getD s 0=if x.s=s then 2 else a.st.getD s 0:=fun s=>by
   rw[e5,xh];by_cases e:x.s=s
   .rw [if_pos ⟨e,by rw[h.hsl];exact r2⟩,if_pos e]
   .rw [if_neg (fun q=>e q.1),if_neg e]
  have hsm:∀k:Int,(a.ldE n x).sums k=if k=(x.b:Int)then some x.m else a.sums k:=fun k=>rfl
  have hnb:∀y∈L,y.b≠x.b:=fun y hy e=>hb.1 (by rw[<-e];exact List.mem_map_of_mem hy);have hns:∀y∈L,y.s≠x.s:=fun y hy e=>hs.1 (by rw[<-e];exact List.mem_map_of_mem hy);have ih:=CaS.ldTo_ok L e3 (fun y hy=>hr y (qzn _ hy)) hs.2 hb.2 (fun y hy=>by
   obtain⟨q1,q2⟩:=hf y (qzn _ hy);exact⟨by rw[hst,if_neg (fun e=>hns y hy e.symm)];exact q1,by rw[hps,if_neg (hnb y hy)];exact q2⟩)
  show CaS.Ld n a (x::L) ((a.ldE n x).ldTo n L);obtain⟨n1,n2,n3⟩:=ih.num;refine⟨ih.tie,fun y hy=>?_,fun k hk=>?_,fun s hq=>?_,⟨?_,?_,?_⟩,ih.oth⟩
  .rcases qzm.1 hy with rfl|hy
   .obtain ⟨b1,b2⟩:=ih.blk y.b (fun z hz=>hnb z hz);refine⟨?_,?_,?_⟩
    .rw [b1,hps,if_pos rfl]
    .rw [b2,hsm,if_pos rfl]
    .rw [ih.slt y.s (fun z hz=>hns z hz),hst,if_pos rfl]
   .exact ih.got y hy
  .obtain ⟨b1,b2⟩:=ih.blk k (fun z hz=>hk z (qzn _ hz));have hne:=hk x qzo;exact⟨by rw[b1,hps,if_neg (fun e=>hne e.symm)],by rw[b2,hsm,if_neg (fun e=>hne oM)]⟩
  .rw [ih.slt s (fun z hz=>hq z (qzn _ hz)),hst,if_neg (hq x qzo)]
  .rw [n1];show a.iN+1+L.length=_;rw[qyz];omega
  .rw [n2];show a.kN+1+L.length=_;rw[qyz];omega
  .rw [n3];show a.mN+1+L.length=_;rw[qyz];omega
theorem CaS.ldTo_sums:∀(L:List Ent) {a:CaS} {B:Nat},(∀x∈L,x.m<=B)->(∀k v,a.sums k=some v->v<=B)->∀k v,(a.ldTo n L).sums k=some v->v<=B
 |[],_,_,_,ha=>ha
 |x::L,a,B,hL,ha=>by
  refine CaS.ldTo_sums L (a:=a.ldE n x) (fun y hy=>hL y (qzn _ hy)) (fun k v h=>?_);have hsm:(a.ldE n x).sums k=if k=(x.b:Int)then some x.m else a.sums k:=rfl
  rw[hsm]at h;split at h
  .cases h;exact hL x qzo
  .exact ha k v h
end
end Go.Proofs.YtpejdgiccaijfaaGreatDoor
