/- What a cache's device holds of its past: the p -/
import Derived.Test.YtbnpkobbnjihjaaGreatDoorG29
import Derived.Test.YtbnpkobbnjihjaaGreatDoorG31
namespace Go.Proofs.YtbnpkobbnjihjaaGreatDoor
open Go Go.RowKit Tryz
def sj(n:CaN)(L:List Ent):Prop:=(∀x∈L,x.b<n.bl/\x.s<n.sl/\x.m<=4294967295)/\(L.map (·.s)).Nodup/\L.Pairwise (fun x y=>x.b<y.b)
def zfL(E:Nat->List Ent)(top i:Nat)(y:Bk):Prop:=okP y=false\/∃s,s<=top/\i<needN (E s).length/\y=sectP (pageXs s (needN (E s).length) (E s) i)
def JOk(jo:Nat)(R:Nat->List Int)(f0 top j:Nat)(y:Bk):Prop:=y=zB\/∃t,f0<t/\t<=top/\(t-1)%jo=j/\y=sectR (R t)
def EJ(L:List Ent):Int->Option EI:=apM (L.map Ent.toI)
abbrev CaN.jb(n:CaN):Nat:=1+2*n.pa
def OOk(n:CaN)(wh:Nat)(E:Nat->List Ent)(R:Nat->List Int)(com fp:Nat)(q:Nat×Bk):Prop:=
 (∃i,i<n.pa/\q.1=1+(1-wh)*n.pa+i/\zfL E fp i q.2)\/(∃t,com<t/\t<=fp/\q=(n.jb+(t-1)%n.jo,sectR (R t)))\/n.ke<=q.1
structure Hs(n:CaN)(Z:Nat->Bk)(a:CaS)(E:Nat->List Ent)(R:Nat->List Int)(f0 com fp:Nat):Prop where
 pl:Pl a.dP
 dl:a.dF.length=n.size
 f1:f0<=a.cov
 c1:a.cov<=com
 c2:com+a.W.length+1=a.next
 c3:com<=fp
 c4:fp+1<=a.next
 c5:a.next<=a.cov+n.jo+1
 wh:a.which<=1
 wq:∀i,i<a.W.length->a.W[i]?=some (com+1+i,sectR (R (com+1+i)))
 rc:∀t,f0<t->t<a.next->((R t).length=7/\mayR (R t)=true/\(R t).getD 0 0=(t:Int)/\(R t).getD 1 0=(((t-1)/n.jo:Nat):Int))/\EJ (E t)=apR (EJ (E (t-1))) (R t)
 en:∀t,t<a.next->sj n (E t)
 cur:E (a.next-1)=a.ents n
 fx:∀s,s=0\/(n.jb+n.jo<=s/\s<n.ke)->a.dF.getD s zB=Z s
 o0:∀q∈a.dO,OOk n a.which E R com fp q
 sd:∀i,i<n.pa->a.dF.getD (1+a.which*n.pa+i) zB=(pagesB a.cov (E a.cov)).getD i zB
 so:∀i,i<n.pa->zfL E fp i (a.dF.getD (1+(1-a.which)*n.pa+i) zB)
 jr:∀j,j<n.jo->JOk n.jo R f0 fp j (a.dF.getD (n.jb+j) zB)
 jw:∀t,a.cov<t->t<=com->a.dF.getD (n.jb+(t-1)%n.jo) zB=sectR (R t)
 sl:∀t,com<=t->t<a.next->∀x∈E t,(a.st.getD x.s 0=2\/a.st.getD x.s 0=3)/\crcC (curB a.dF a.dO (n.ke+x.s))=x.m
 sf:∀t,com<=t->t<=fp->∀x∈E t,crcC (a.dF.getD (n.ke+x.s) zB)=x.m
theorem CaN.slot0_eq(n:CaN):n.ke=1+2*n.pa+n.jo+n.lo+n.lo+n.lo:=rfl
theorem CaN.size_eq(n:CaN):n.size=n.ke+n.sl:=rfl
section
variable{n:CaN}{Z:Nat->Bk}{a b:CaS}{E:Nat->List Ent}{R:Nat->List Int}{f0 com fp:Nat}
theorem zfM(m:Nat){k:Nat}(h:k<=1):k*m=0/\(1-k)*m=m\/k*m=m/\(1-k)*m=0:=by
 rcases(show k=0\/k=1 by omega)with rfl|rfl
 .left;simp
 .right;simp
end
theorem Tv{l:List EI}(j:(l.map EI.b).Nodup){s:Int}{e:EI}:apM l s=some e↔e∈l/\e.b=s:=by
 have:∀(l:List EI),(l.map EI.b).Nodup->∀(f:Int->Option EI),(l.foldl apPut f) s=some e↔(e∈l/\e.b=s)\/(s∉l.map EI.b/\f s=some e):=by
  intro l
  induction l with
  |nil=>intro _ f;simp
  |cons x l p=>
   intro j f;rw[qzh,qzw]at j;rw[List.foldl_cons,p j.2];unfold apPut;by_cases k:s=x.b
   .subst k;constructor
    .rintro (h|⟨h1,h2⟩)
     .exact .inl ⟨qzn _ h.1,h.2⟩
     .rw [if_pos rfl]at h2;cases h2;exact .inl ⟨qzo,rfl⟩
    .rintro (⟨h1,h2⟩|⟨h1,-⟩)
     .rcases qzm.1 h1 with rfl|h1
      .exact .inr ⟨j.1,if_pos rfl⟩
      .exact .inl ⟨h1,h2⟩
     .exact absurd oe h1
   .rw [if_neg k];constructor
    .rintro (h|⟨h1,h2⟩)
     .exact .inl ⟨qzn _ h.1,h.2⟩
     .refine .inr ⟨?_,h2⟩;rw[qzh,qzm];exact fun h=>h.elim k h1
    .rintro (⟨h1,h2⟩|⟨h1,h2⟩)
     .rcases qzm.1 h1 with rfl|h1
      .exact absurd h2.symm k
      .exact .inl ⟨h1,h2⟩
     .refine .inr ⟨fun h=>h1 ?_,h2⟩;rw[qzh];exact qzn _ h
 simpa[apM]using this l j (fun _=>none)
theorem tN{k:List (Int×Bool)}{fr:Nat}{x:It9}:∀{m:Nat},x∈visTo k fr m↔∃j,j<m/\k.getD j (-1,false)≠(-1,false)/\x=(fr+j,k.getD j (-1,false))
 |0=>by simp[visTo]
 |m+1=>by
  rw[visTo,qzl,tN];unfold sX;rw[<-qyf];constructor
  .rintro (⟨j,h1,h2⟩|h)
   .exact ⟨j,oM,h2⟩
   .split at h
    .cases h
    .next p=>exact⟨m,oM,p,qzt.1 h⟩
  .rintro ⟨j,h1,h2,rfl⟩;by_cases q:j=m
   .subst q
    right
    rw[if_neg h2];exact qzt.2 rfl
   .exact .inl ⟨j,oM,h2,rfl⟩
section
variable{n:CaN}{a b:CaS}
theorem CaS.ents_mem(j:a.ps.length=n.bl){x:Ent}:x∈a.ents n↔∃k,k<n.bl/\plc a.ps k≠(-1,false)/\x=⟨k,(plc a.ps k).1.toNat,(plc a.ps k).2,(a.sums (k:Int)).getD 0⟩:=by
 have e:spanL a.ps 0 n.bl=a.ps:=by unfold spanL;rw[qya,<-j,List.take_length]
 unfold CaS.ents;rw[e,qzq];constructor
 .rintro ⟨y,hy,rfl⟩;obtain⟨k,h1,h2,rfl⟩:=tN.1 hy;exact⟨k,oM,h2,by simp[CaS.ent]⟩
 .rintro ⟨k,h1,h2,rfl⟩;exact⟨(0+k,plc a.ps k),tN.2 ⟨k,oM,h2,rfl⟩,by simp[CaS.ent]⟩
end
theorem sj.need{n:CaN}{L:List Ent}(h:sj n L)(j:n.Ok):needN L.length<=n.pa/\needN L.length<=256/\∀x∈L,Ze x:=by
 have k:L.length<=n.sl:=by
  have h1:=xz n.sl _ h.2.1 (fun s p=>by
   obtain⟨x,hx,rfl⟩:=qzq.1 p;exact(h.1 x hx).2.1)
  simpa using h1
 have h2:=EF k;have v:=j.p1;have w:=j.s2;have A:=j.b2;refine⟨by unfold needN at h2⊢;omega,by unfold needN at h2⊢;omega,fun x hx=>?_⟩;obtain⟨q1,q2,q⟩:=h.1 x hx;exact⟨oM,oM,q⟩
theorem Tw{p:Type}(f:p->Int):∀{L j:List p},L.Pairwise (fun x y=>f x<f y)->j.Pairwise (fun x y=>f x<f y)->(∀x,x∈L↔x∈j)->L=j
 |[],[],_,_,_=>rfl
 |[],y::j,_,_,h=>by cases (h y).2 qzo
 |x::L,[],_,_,h=>by cases (h x).1 qzo
 |x::L,y::j,h1,h2,h=>by
  rw[List.pairwise_cons]at h1 h2;have q:x=y:=by
   rcases qzm.1 ((h x).1 qzo)with e|hx
   .exact e
   .rcases qzm.1 ((h y).2 qzo)with e|hy
    .exact e.symm
    .have:=h1.1 y hy;have:=h2.1 x hx;omega
  subst q
  congr 1
  refine Tw f h1.2 h2.2 (fun z=>⟨fun k=>?_,fun k=>?_⟩)
  .rcases qzm.1 ((h z).1 (qzn _ k))with rfl|hz'
   .have:=h1.1 _ k;omega
   .exact hz'
  .rcases qzm.1 ((h z).2 (qzn _ k))with rfl|hz'
   .have:=h2.1 _ k;omega
   .exact hz'
end Go.Proofs.YtbnpkobbnjihjaaGreatDoor
