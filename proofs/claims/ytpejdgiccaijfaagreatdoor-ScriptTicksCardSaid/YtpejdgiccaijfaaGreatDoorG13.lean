/- The plain law -/
import Derived.Test.YtpejdgiccaijfaaGreatDoorG07
import Derived.BigRegionIn
import Derived.Shelf.RegionOpen
import Derived.Maps.RangeWalk
import Derived.Test.YtpejdgiccaijfaaGreatDoorG06
set_option maxRecDepth 100000
set_option maxHeartbeats 16000000
namespace Go.Proofs.YtpejdgiccaijfaaGreatDoor
variable{K G l:List Int}{e t:TypeId}{few most N c b p r cnt:Nat}{w W w':World}{x:Int}{A left:Int->Bool}{v:Value}{S:Nat->Prop}
open Go Go.RowKit Tryz
namespace EvG
def trimG(few:Nat)(L:List Int):List Int:=if few<L.length then L.tail else L
def restK(K:List Int)(i:Nat):List Int:=K.drop (i+1)++K.take i
structure EvYes(fm:Int->Bool)(few:Nat)(K:List Int)(A:Int->Bool)(G:List Int)(key:Int)(K':List Int)(A':Int->Bool)(G':List Int):Prop where
 ex:∃i,∃h:i<K.length,key=K[i]/\K'=restK K i/\((∀x,K.head?=some x->fm x=true/\A x=false)->i=0/\A'=A)/\((i=0/\A'=A)\/1<=i\/∀x∈K,fm x=false\/A x=true)/\∀j (hj:j<K.length),j<i->fm K[j]=true->A' K[j]=false
 gh:G'=trimG few (G++[key])
 out:A' key=false
 sub:∀x,A' x=true->A x=true
def evGo(fm:Int->Bool)(K:List Int):Nat->Nat->(Int->Bool)->Option (Nat×(Int->Bool))
 |0,_,_=>none
 |g+1,h,A=>if fm (K.getD (h%K.length) 0)=false then evGo fm K g (h+1) A else if A (K.getD (h%K.length) 0)=true then evGo fm K g (h+1) (updB A (K.getD (h%K.length) 0) false)else some (h%K.length,A)
def evR(fm:Int->Bool)(few:Nat)(K:List Int)(A:Int->Bool)(G:List Int):Int×Int×List Int×(Int->Bool)×List Int:=
 match evGo fm K (2*K.length) 0 A with
 |none=>(0,14,K,A,G)
 |some (p,A')=>(K.getD p 0,0,restK K p,A',trimG few (G++[K.getD p 0]))
section
variable{fm:Int->Bool}{K:List Int}{A:Int->Bool}{g h p:Nat}{k:Int}{hp:p<K.length}
theorem QQ(D:1<=g)(j:k=K[p])(n:p=h%K.length)(q:fm k=false):evGo fm K g h A=evGo fm K (g-1) (h+1) A:=by
 obtain⟨g,rfl⟩:∃s,g=s+1:=⟨g-1,oM⟩
 have e:K.getD (h%K.length) 0=k:=by rw[<-n,j];simp[hp]
 simp only[evGo,e,q,if_true,Nat.add_sub_cancel]
theorem Jc(E:1<=g)(j:k=K[p])(n:p=h%K.length)(q:fm k=true)(s:A k=true):evGo fm K g h A=evGo fm K (g-1) (h+1) (updB A k false):=by
 obtain⟨g,rfl⟩:∃D,g=D+1:=⟨g-1,oM⟩
 have e:K.getD (h%K.length) 0=k:=by rw[<-n,j];simp[hp]
 simp only[evGo,e,q,s,if_true,Nat.add_sub_cancel];simp
theorem Jd(E:1<=g)(n:k=K[p])(j:p=h%K.length)(q:fm k=true)(s:A k=false):evGo fm K g h A=some (p,A):=by
 obtain⟨g,rfl⟩:∃D,g=D+1:=⟨g-1,oM⟩
 have e:K.getD (h%K.length) 0=k:=by rw[<-j,n];simp[hp]
 simp only[evGo,e,q,s];simp[j]
end
def EvOut(fm:Int->Bool)(few:Nat)(K:List Int)(A:Int->Bool)(G:List Int)(key code:Int)(K':List Int)(A':Int->Bool)(G':List Int):Prop:=
 ((code=14/\key=0/\K'=K/\A'=A/\G'=G/\∀x∈K,fm x=false\/A x=true)\/(code=0/\EvYes fm few K A G key K' A' G'))/\evR fm few K A G=(key,code,K',A',G')
theorem restK_perm{i:Nat}(h:i<K.length):(K[i]::restK K i).Perm K:=by
 unfold restK;have e:K=K.take i++K[i]::K.drop (i+1):=oe;have h1:(K[i]::(K.drop (i+1)++K.take i)).Perm (K.take i++K[i]::K.drop (i+1)):=by
  exact List.perm_append_comm (l₁:=K[i]::K.drop (i+1)) (l₂:=K.take i)
 rw[<-e]at h1;exact h1
theorem QR{i:Nat}(h:i<K.length):(restK K i).length+1=K.length:=by
 have:=(restK_perm h).length_eq;simpa using this
theorem QS(few:Nat)(L:List Int)(h:L.length<=few+1):(trimG few L).length<=few:=by
 unfold trimG;split
 .rw [List.length_tail];omega
 .omega
theorem trimG_mem{L:List Int}(h:x∈trimG few L):x∈L:=by
 unfold trimG at h;split at h
 .exact List.mem_of_mem_tail h
 .exact h
theorem Wb{L:List Int}(h:L.Nodup):(trimG few L).Nodup:=by
 unfold trimG;split
 .exact h.sublist (List.tail_sublist L)
 .exact h
theorem CkGood.evict{K' n:List Int}{q:Int->Bool}{fm:Int->Bool}{E:Int}(h:CkGood most few K A G)(hy:EvYes fm few K A G E K' q n):CkGood most few K' q n:=by
 obtain⟨i,j,rfl,rfl,_,_,_⟩:=hy.ex;have hp:=restK_perm j;have s:(K[i]::restK K i).Nodup:=hp.nodup_iff.2 h.kd;have D:∀x,x∈restK K i->x∈K:=fun x hx=>hp.mem_iff.1 (qzo _ hx);have J:=QR j;have F:=hy.gh;subst F;exact{
  kr:=fun x hx=>h.kr x (D x hx)
  gr:=fun x hx=>by
   rcases qzm.1 (trimG_mem hx)with h1|h1
   .exact h.gr x h1
   .simp at h1;exact h1▸h.kr _ (qyv j)
  kd:=(qzx.1 s).2
  gd:=Wb (by
   rw[qzw];refine⟨h.gd,oe,fun x hx y hy e=>?_⟩;simp at hy;subst hy;subst e;exact h.dis _ (qyv j) hx)
  dis:=fun x hx H=>by
   rcases qzm.1 (trimG_mem H)with h1|h1
   .exact h.dis x (D x hx) h1
   .simp at h1;subst h1;exact(qzx.1 s).1 hx
  ask:=fun x hx=>by
   have h1:=h.ask x (hy.sub x hx);rcases qzn.1 (hp.mem_iff.2 h1)with h2|h2
   .subst h2;rw[hy.out]at hx;cases hx
   .exact h2
  kl:=by have:=h.kl;omega
  gl:=QS _ _ (by have:=h.gl;simp;omega)
  ml:=h.ml
  fl:=h.fl
  m1:=h.m1}
theorem EvOut.good{K' j:List Int}{n:Int->Bool}{fm:Int->Bool}{q s:Int}(h:CkGood most few K A G)(D:EvOut fm few K A G q s K' n j):CkGood most few K' n j:=by
 rcases D with⟨⟨_,_,rfl,rfl,rfl,_⟩|⟨_,hy⟩,-⟩
 .exact h
 .exact CkGood.evict h hy
theorem QT(h:Sl w 3 1 v l.length (ints l))(q:l.length<=4096)(s:0<l.length):
  Calls prog 288 #[v,.int .i64 0,.int .i64 1] w fun e w'=>∃j n c,e=.returned (.slice j n c)/\(Value.slice j n c).ownBlock=v.ownBlock/\Sl w' 3 1 (.slice j n c) l.tail.length (ints l.tail)/\Upd (ownS v) w w':=by
 have:=Ym h q s;rw[List.eraseIdx_zero]at this;refine this.mono ?_;rintro e w' ⟨E,rfl,h1,h2,D⟩;obtain⟨j,c,rfl⟩:=h2.rd.j6;exact⟨j,_,c,rfl,h1,h2,D⟩
theorem Th{g o n:Nat}{q:Array Value}(F:w.heap[g]?=some (.cells q e (0,0)))(H:∀j u,(ints l)[j]?=some u->q[o+j]?=some u)(T:l.length<=maxLen)(A:Addr)(i:Nat)(s:(if c=i then some (⟨g,o,none⟩:Addr)else some ⟨g,o+i,none⟩)=some A)(J:n=l.length-i)(L:c=i->l.length<=i)(D:Nat):
  Rd w 1 (.slice (some A) n D) (l.drop i).length (ints (l.drop i)):=by
 subst J;refine⟨oe,by rw[qzb];omega,some A,D,by rw[qzb],(fun h=>by cases h),fun b M j u O=>?_⟩;cases M;have E:(ints l)[i+j]?=some u:=by simpa[ints,List.getElem?_drop]using O
 by_cases h:c=i
 .have:=(qym.1 E).1;rw[xr]at this;have:=L h;omega
 .rw [if_neg h]at s;cases s;rw[qxa,za F,qXm];exact H _ _ E
theorem zaj{g o:Nat}{n:Array Value}(E:w.heap[g]?=some (.cells n e (0,0)))(F:∀j u,(ints l)[j]?=some u->n[o+j]?=some u)(L:l.length<=maxLen)(i:Nat)(M:i<=l.length)(q:Nat):
  Rd w 1 (.slice (some ⟨g,o,none⟩) i q) (l.take i).length (ints (l.take i)):=by
 have hlt:(l.take i).length=i:=by rw[qzg];omega
 refine⟨oe,by rw[hlt];omega,some ⟨g,o,none⟩,q,by rw[hlt],(fun h=>by cases h),fun b H j u s=>?_⟩;cases H;have D:=(qym.1 s).1;rw[xr,hlt]at D;have J:(ints l)[j]?=some u:=by
  rw[<-s];simp[ints,D]
 rw[qxa,za E];exact F _ _ J
theorem Je{mb:Nat}{ad ae:Value}(h:CkAt w b mb N ad ae most few K A G)(U:Value)(fm:Int->Bool)(cu:MayIs U fm w):
  Calls prog 424 #[.pointer (some ⟨b,0,none⟩),mayV U] w fun e w'=>∃bj bn bp bq br bs bt bu,e=.returned (.tuple #[.int .i64 bj,.int .i64 bn])/\
   EvOut fm few K A G bj bn bp bq br/\CkMem w' b bs N bt bu most few bp bq br/\(∀j,So b bs bt bu j->So b mb ad ae j\/w.heap.size<=j)/\Upd (fun j=>j=b) w w':=by
 obtain⟨cv,cx,aA,cy,cz⟩:=qYt vR;have dD:∀w,(binOp .eql 66 (mayV U) .nilFunc).run prog w=.ok (.bool false) w:=fun _=>kR;have dE:=qqf;have bv:=qqh h;have dF:=h.blt;have aU:Upd (fun _=>False) w (w.alloc (.cells #[mayV U] 66)).drew:=((uur _ _).alloc _).drew;have Z:=h.keep aU (fun _ _ h=>h);have dG:=h.kle;have dH:=h.gle;have aB:Hid (((w.alloc (.cells #[mayV U] 66)).drew.cell? ⟨b,2,none⟩=some ad)/\((w.alloc (.cells #[mayV U] 66)).drew.cell? ⟨b,3,none⟩=some (.map (some mb)))/\
   ((w.alloc (.cells #[mayV U] 66)).drew.cell? ⟨b,4,none⟩=some ae)):=⟨Z.c.2.2.1,Z.c.2.2.2.1,Z.c.2.2.2.2⟩
 have bx:Hid ((w.alloc (.cells #[mayV U] 66)).drew.cell? ⟨w.heap.size,0,none⟩=some (mayV U)):=za (zc w _ rfl) 0;have Z:=qqh Z;have bz:=qqh aU;have cA:=aB.out.1;have cB:=aB.out.2.1;have cC:=aB.out.2.2;clear h aU;go_enter func424,ntmps424
 go_wp2
 refine wp_scope_straight ?_;go_wp2
 go_region_held3 (fun W=>W.cell? ⟨b,2,none⟩=some ad/\W.cell? ⟨b,3,none⟩=some (.map (some mb))/\W.cell? ⟨b,4,none⟩=some ae) (go_keep)
  (first
  |((go_at_call 302;refine(yE Z.o.ks.rd oM).mono ?_;rintro e aj ⟨v3,rfl,aC,bA,af⟩;have a6:=Z.o.below af;have cD:=a6.c.2.2.1;have cE:=a6.c.2.2.2.1;have cF:=a6.c.2.2.2.2;have a6:=qqh a6))
  |((go_at_call 446;refine(yW a6.o.set).mono ?_;rintro e dI ⟨rfl,aV,aD⟩;have a7:=a6.o.below aD;have cG:=a7.c.2.2.1;have cH:=a7.c.2.2.2.1;have cI:=a7.c.2.2.2.2;have a7:=qqh a7))
  |((go_at_call 302;refine(yE a7.o.gs.rd oM).mono ?_;rintro e aW ⟨v5,rfl,aX,bB,aE⟩;have a8:=a7.o.below aE;have cJ:=a8.c.2.2.1;have cK:=a8.c.2.2.2.1;have cL:=a8.c.2.2.2.2;have a8:=qqh a8)))
 have aF:(w.alloc (.cells #[mayV U] 66)).drew.heap.size=w.heap.size+1:=oe;have aG:Below aj.heap.size aj aW:=aD.trans (aE.mono aD.size);have aH:Hid (Upd (fun _=>False) w aW):=bz.o.trans (uuo (af.trans (aG.mono af.size)));have bC:=qqh (aC.keep (uuo (S:=fun _=>False) aG) (fun _ _ h=>h));have aI:=qqh (aV.keep (uuo (S:=fun _=>False) aE) id);have aY:=qqh aX;have bD:=qqh ((aG.cell (p:=⟨w.heap.size,0,none⟩) (by have:=af.size;simp at this⊢;omega)).trans ((af.cell (p:=⟨w.heap.size,0,none⟩) oe).trans bx.out));have s:Hid ((∀g,v3.ownBlock=some g->w.heap.size<g/\g<aj.heap.size)/\w.heap.size<aj.heap.size/\(∀g,v5.ownBlock=some g->aj.heap.size<g)):=by
  have:=af.size;have:=aV.lt;refine⟨fun g D=>⟨?_,aC.lt D⟩,oM,fun g D=>?_⟩
  .have:=bA g D;omega
  .have:=bB g D;omega
 obtain⟨dJ,ck,rfl⟩:=aC.rd.j6;obtain⟨bE,cg,rfl⟩:=aX.rd.j6;generalize ak:aj.heap.size=E at*;clear af aD aE aG aC aX bA bB aV cJ cK cL cG cH cI cD cE cF cA cB cC a6 a7 Z aB bx bz ak aF;go_wp2
 refine wp_label ?_;go_wp2
 go_loopg[12] (2*K.length) (fun g i wr=>∃h:Nat,h+g=2*K.length/\i=.int .i64 h/\∃J,SetAt wr E N J/\(∀x,J x=true->A x=true)/\((h=0->J=A)/\evGo fm K g h J=evGo fm K (2*K.length) 0 A)/\(∀j (n:j<K.length),j<h->(fm K[j]=false\/A K[j]=true)/\(fm K[j]=true->J K[j]=false))/\Upd (fun j=>j=E) aW wr)
 case atStart=>exact⟨0,oM,rfl,A,aI.o,fun _ h=>h,⟨fun _=>rfl,rfl⟩,fun j n h=>oM,uur _ _⟩
 case round=>
  obtain⟨h,dK,rfl,J,bF,bG,aA,aF,bH⟩:=hrel;have q:=Y5 bF bG aA aF bH;clear bF bG aA aF bH;by_cases hlt:h<2*K.length
  .have ar:h%K.length<K.length:=qXu _ oM;obtain⟨p,hp⟩:=qqe (h%K.length);rw[<-hp]at ar;have bI:(h:Int)%(K.length:Int)=(p:Int):=by rw[hp];exact(Int.natCast_emod h K.length).symm
   have X:=qqh hp;clear hp;have aZ:=bC.o.keep q.out.2.2.2.2 (fun g D e=>by have:=s.o.1 g D;omega);have dL:=qqh aZ;obtain⟨ag,ah,dM,cM,cN,bJ⟩:=aZ.rd.at oM;cases cM;have bK:=bJ p _ (yh ar);have bL:=(q.out.2.2.2.2.cell (p:=⟨w.heap.size,0,none⟩) (zE bD.out).2 (by have:=s.o.2.1;simp;omega)).trans bD.out;have aJ:InR K[p]:=a8.o.good.kr _ (qyv ar);obtain⟨k,b0⟩:=qqe (K[p]);rw[<-b0]at bK aJ;have ai:=qqh b0;clear b0 aZ bJ;have dN:¬(K.length:Int)=0:=oM;go_wp2_with fail
   refine(Sx cu k aJ _ (aH.out.new q.out.2.2.2.2 (fun i aK e=>by have:=s.o.2.1;omega)) w.heap.size bL).mono ?_;rintro e dO ⟨rfl,b1⟩;have b2:=qqh (q.out.1.keep (uuo (S:=fun _=>False) b1) id);have bM:=qqh (q.out.2.2.2.2.trans (uuo b1));clear b1 bK bL cN;rcases ak:fm k with _|_
   .have am:=qqh ak;clear ak;go_wp2
    go_roundg (gk-1)
    case measure=>omega
    case rel=>
     refine⟨h+1,oM,by go_num,J,b2.out,q.out.2.1,⟨oM,(QQ oM ai.o X.o am.o).symm.trans q.out.2.2.1.2⟩,fun j n cO=>?_,bM.o⟩;by_cases V:j<h
     .exact q.out.2.2.2.1 j n V
     .have b3:p=j:=by rw[X.o,show h=j by omega];exact qXt n
      subst b3;rw[<-ai.o];exact⟨.inl am.o,fun e=>by rw[am.o]at e;cases e⟩
   .have am:=qqh ak;clear ak;go_wp2_with fail
    refine(uX b2.out k aJ).mono ?_;rintro e M ⟨rfl,b4⟩;have bN:=qqh (b2.out.keep (uuo (S:=fun _=>False) b4) id);have Y:=qqh (bM.o.trans (uuo b4));clear b4;rcases aL:J k with _|_
    .have au:=qqh aL;clear aL;go_wp2
     simp only[bI];clear bI;have dP:w.heap.size<M.heap.size:=by have:=Y.o.size;have:=aH.out.size;have:=s.o.2.1;have:=aI.o.lt;omega
     have cP:=qqh (a8.o.keep Y.o (fun j n e=>by subst e;have:=bv.o.slt _ n;have:=s.o.2.1;omega));have cQ:Sl M 3 1 (.slice (some ⟨ag,ah,none⟩) K.length ck) K.length (ints K):=bC.o.keep Y.o (fun g D e=>by have:=s.o.1 g D;omega);obtain⟨_,⟨h1,h2⟩|⟨dQ,dR,dS,dT,h1,aM,dU,cR,aN,aO⟩⟩:=cQ
     .cases h1
     cases h1;obtain⟨an,cT,cU⟩:∃an:Addr,(if ck=p+1 then some (⟨ag,ah,none⟩:Addr)else some ⟨ag,ah+(p+1),none⟩)=some an/\Hid (∀W,Upd (fun _=>False) M W->Rd W 1 (.slice (some an) (K.length-(p+1)) (ck-(p+1))) (K.drop (p+1)).length (ints (K.drop (p+1)))):=by
      have bO:K.length<=maxLen:=oM;by_cases e:ck=p+1
      .rw [if_pos e];refine⟨_,rfl,fun W av=>Rd.keep (Th aM aO bO _ (p+1) (if_pos e) rfl (fun _=>oM) _) av (fun _ _ h=>h)⟩
      .rw [if_neg e];refine⟨_,rfl,fun W av=>Rd.keep (Th aM aO bO _ (p+1) (if_neg e) rfl (fun h=>absurd h e) _) av (fun _ _ h=>h)⟩
     have cV:Hid (∀W,Upd (fun _=>False) M W->Rd W 1 (.slice (some ⟨ag,ah,none⟩) p ck) (K.take p).length (ints (K.take p))):=fun W av=>Rd.keep (zaj aM aO oM p oM _) av (fun _ _ h=>h);have b5:Hid (Upd (fun _=>False) M (M.alloc (.cells #[.slice (some an) (K.length-(p+1)) (ck-(p+1)),.slice (some ⟨ag,ah,none⟩) p ck] 87)).drew):=((uur _ _).alloc _).drew;have cW:Hid ((M.alloc (.cells #[.slice (some an) (K.length-(p+1)) (ck-(p+1)),.slice (some ⟨ag,ah,none⟩) p ck] 87)).drew.heap[M.heap.size]?=some (.cells #[.slice (some an) (K.length-(p+1)) (ck-(p+1)),.slice (some ⟨ag,ah,none⟩) p ck] 87 (0,0))):=zc _ _ rfl;have cX:Hid ((K.drop (p+1)).length+(K.take p).length<=4096):=by show(K.drop (p+1)).length+(K.take p).length<=4096;rw[qzb,qzg];omega
     have dV:¬p+1>ck:=oM;have dW:p<=ck:=oM;have dX:p+1<=ck:=oM;have cY:(0:Int)<=(p:Int)+1:=oM;have cZ:(p:Int)+1<=(K.length:Int):=oM;have dY:0<=(p:Int)+1/\(p:Int)+1<=(K.length:Int):=⟨cY,cZ⟩
     have d0:IntKind.i64.wrap ((p:Int)+1)=(p:Int)+1:=qxu _ oM;have d1:((p:Int)+1).toNat=p+1:=oM;have d2:Hid ((K.drop (p+1)).length+(K.take p).length=(restK K p).length):=by show _=_;unfold restK;rw[qyz]
     have d3:Hid (ints (K.drop (p+1))++ints (K.take p)=ints (restK K p)):=by show _=_;unfold restK;rw[Xm]
     clear aO aM aN cR
     go_region_with (go_at_call 448;refine(Vv cW.out (cU.out _ b5.out) (cV.out _ b5.out) cX.out).mono ?_;rintro e L ⟨F,rfl,aa,bP,bQ⟩;rw[d2.out,d3.out]at aa;obtain⟨bR,bS,rfl⟩:=aa.rd.j6;have aw:=qqh (b5.out.trans (uuo bQ));have ax:=cP.o.keep aw.out (fun _ _ h=>h);have d4:=ax.c.2.2.1;have d5:=ax.fz 2;have ax:=qqh ax)
     have bT:M.heap.size<=L.heap.size:=aw.out.size;have bU:∀g,(Value.slice bR (restK K p).length bS).ownBlock=some g->M.heap.size<=g/\g<L.heap.size:=fun g D=>⟨by have:=bP g D;simp at this;omega,aa.lt D⟩
     have bV:=ax.o.str;have bW:=aY.o.keep (Y.o.trans (aw.out.mono fE)) (fun g D e=>by have:=s.o.2.2 g D;omega);have bX:=bN.out.keep aw.out id;obtain⟨F,b6⟩:=qqe (Value.slice bR (restK K p).length bS);have H:=Y6 aa bU bV bW bX b6;clear aa bU bP bQ bW bX bV d4 d5;rw[<-b6];clear b6;have aP:F.ownBlock≠some b:=by rw[H.out.2.2.2.2.2];intro e;have:=(H.out.2.1 b e).1;omega
     have b7:(Value.slice bE G.length cg).ownBlock≠some b:=by intro e;have:=s.o.2.2 b e;have:=s.o.2.1;omega
     have aQ:E≠b:=by have:=s.o.2.1;omega
     have aR:=zh H.out.2.2.1 2 F;have bY:=(H.out.2.2.2.2.2▸H.out.1:Sl L 3 1 F (restK K p).length (ints (restK K p))).kM (zi L b 2 F) aP;have bZ:=H.out.2.2.2.1.kM (zi L b 2 F) b7;have c0:=H.out.2.2.2.2.1.keep (zi L b 2 F) aQ;have c3:Upd (fun j=>j=b) w (L.setCell ⟨b,2,none⟩ F):=
      Upd.trans (Upd.new aH.out (Y.o.trans (aw.out.mono fE)) (fun i aK e=>by have:=s.o.2.1;omega)|>.mono fE) (zi L b 2 F)
     have aN:L.heap.size=(L.setCell ⟨b,2,none⟩ F).heap.size:=oe;generalize L.setCell ⟨b,2,none⟩ F=ab at*;have c4:=za aR 3;have d6:=zf aR 3;simp at c4;have ao:=Y6 aR bY bZ c0 c3 aN;clear aR bY bZ c0 c3 aN;have d7:=qqh (ao.out.2.2.1.kM (zi ab b 3 (.map (some E))) b7);have d8:Hid (G.length+1<=maxLen):=by show G.length+1<=maxLen;unfold maxLen;omega
     have d9:Hid ((G.length+1)*8<=140737488355328):=by show _<=_;omega
     have da:Hid (∀u∈[Value.int .i64 k],u.oneCell'=true):=by intro u c5;simp at c5;subst c5;rfl
     have db:Hid (Value.slice (some ⟨ab.heap.size,0,none⟩) 1 1=.slice (some ⟨(ab.setCell ⟨b,3,none⟩ (.map (some E))).heap.size,0,none⟩) 1 1):=by show _=_;simp
     go_wp2_with (at_builtin;refine zK rfl (.tmp 82) (.tmp 84) 87 rfl cv (.int .i64 0) 8 underlying87 cx aA cy cz rfl de rfl d7.out [.int .i64 k] db.out rfl da.out d8.out d9.out ?_)
     intro dZ ap b8 ay c6;obtain⟨O,T,rfl⟩:=b8.rd.j6;have e0:ab.heap.size=(ab.setCell ⟨b,3,none⟩ (.map (some E))).heap.size:=oe;have az:∀g,(Value.slice O (G.length+1) T).ownBlock=some g->E<g/\(g<M.heap.size\/L.heap.size<=g):=by
      intro g D;have dc:=aY.o.lt (g:=g);have e1:=Y.o.size;rcases c6 with e|⟨e2,e,hge⟩
      .rw [e]at D;exact⟨s.o.2.2 g D,.inl (by have:=dc D;omega)⟩
      .rw [e]at D;cases D;have:=ao.out.2.2.2.2.2;have:=aI.o.lt;exact⟨oM,.inr oM⟩
     have b9:=zh ao.out.1 3 (.map (some E));have aS:=(ay.block b (zd b9) (fun e=>b7 e)).trans b9;have c7:=zh aS 4 (.slice O (G.length+1) T);have c8:=za aS 4;have dd:=zf aS 4;simp at c8;have c9:Dis F (Value.slice bE G.length cg):=fun g h1 h2=>by
      have:=(H.out.2.1 g (by rw[<-H.out.2.2.2.2.2];exact h1)).1;have:=aY.o.lt h2;have:=Y.o.size;omega
     have ba:(Value.slice O (G.length+1) T).ownBlock≠some b:=fun e=>by have:=(az b e).1;have:=s.o.2.1;omega
     have cb:=((ao.out.2.1.kM (zi ab b 3 (.map (some E))) aP).kO c9 ay).kM (zi ap b 4 (.slice O (G.length+1) T)) aP;have bb:=b8.kM (zi ap b 4 (.slice O (G.length+1) T)) ba;have cc:=((ao.out.2.2.2.1.keep (zi ab b 3 (.map (some E))) aQ).keep ay (fun e=>by have:=s.o.2.2 E e;omega)).keep (zi ap b 4 (.slice O (G.length+1) T)) aQ;have cd:=(((ao.out.2.2.2.2.1.trans (zi ab b 3 (.map (some E)))).new ay (fun i aK e=>by have:=s.o.2.2 i e;have:=s.o.2.1;omega))).trans (zi ap b 4 (.slice O (G.length+1) T));have ce:ints G++[.int .i64 k]=ints (G++[k]):=oe;rw[ce]at bb;have cf:CkMem (ap.setCell ⟨b,4,none⟩ (.slice O (G.length+1) T)) b E N F (.slice O (G.length+1) T) most few (restK K p) J (G++[k]):={
      str:=by simpa using c7
      ks:=cb
      gs:=by simpa using bb
      set:=cc
      kb:=aP
      gb:=ba
      km:=fun e=>by have:=(H.out.2.1 E (by rw[<-H.out.2.2.2.2.2];exact e)).1;have:=aI.o.lt;have:=Y.o.size;omega
      gm:=fun e=>by have:=(az E e).1;omega
      bm:=aQ
      kg:=fun g h1 h2=>by
       have e3:=H.out.2.1 g (by rw[<-H.out.2.2.2.2.2];exact h1);have e4:=(az g h2).2;omega}
     have bc:=qqh cf;have ch:=qqh cd;clear cf cd cc bb cb ce c6 ay b8 b9 aS c7 ba c9;go_wp2
     generalize ap.setCell ⟨b,4,none⟩ (.slice O (G.length+1) T)=ci at*;have bd:=bc.o.c;have df:=bd.2.1;have dg:=bd.2.2.2.2;clear bd c8 dd c4 d6;have cj:Hid (EvYes fm few K A G k (restK K p) J (trimG few (G++[k]))):=by
      refine⟨⟨p,ar,ai.o,rfl,fun hx=>?_,?_,fun j n e5 e=>(q.out.2.2.2.1 j n (by have:=Nat.mod_le h K.length;rw[<-X.o]at this;omega)).2 e⟩,rfl,au.o,q.out.2.1⟩
      .by_cases V:h=0
       .refine ⟨?_,q.out.2.2.1.1 V⟩;rw[X.o,V];exact Nat.zero_mod _
       .have dh:K.head?=some K[0]:=by rw[List.head?_eq_getElem?];exact qyk oM
        have h1:=(q.out.2.2.2.1 0 oM oM).1;have h2:=hx _ dh;rw[h2.1,h2.2]at h1;simp at h1
      .by_cases V:h=0
       .exact .inl ⟨by rw[X.o,V];exact Nat.zero_mod _,q.out.2.2.1.1 V⟩
       .right
        by_cases h1:h<K.length
        .left;rw[X.o,qXt h1];omega
        .right
         intro x hx;obtain⟨j,n,rfl⟩:=qyw hx;exact(q.out.2.2.2.1 j n oM).1
     have cl:Hid (evR fm few K A G=(k,0,restK K p,J,trimG few (G++[k]))):=by
      show _=_;have e:K.getD p 0=k:=by rw[ai.o];simp[ar]
      unfold evR;rw[<-q.out.2.2.1.2,Jd oM ai.o X.o am.o au.o];simp only[e]
     have co:Hid (∀(be:Value),(be.ownBlock=(Value.slice O (G.length+1) T).ownBlock)->∀j,So b E F be j->So b mb ad ae j\/w.heap.size<=j):=by
      intro be di j n;rcases n with rfl|rfl|n|n
      .exact .inl (.inl rfl)
      .right;have:=s.o.2.1;omega
      .right;have:=(H.out.2.1 j (by rw[<-H.out.2.2.2.2.2];exact n)).1;omega
      .right;rw[di]at n;have:=(az j n).1;have:=s.o.2.1;omega
     by_cases e6:few<G.length+1
     .have dj:decide ((few:Int)<(G.length:Int)+1)=true:=by simp;omega
      go_quiet(fail)
      generalize cp:ci.drewN nq=dk;have bf:Upd (fun _=>False) ci dk:=by rw[<-cp];exact(uur _ _).drewN _
      have aq:=qqh (bc.o.keep bf (fun _ _ h=>h));have dm:=qqh (ch.o.trans (bf.mono fE));clear cp bf df dg;have dn:=aq.out.c.2.2.2.2;have bg:Hid (0<(G++[k]).length/\(G++[k]).length<=4096/\(G++[k]).tail=trimG few (G++[k])):=by
       refine⟨oe,by simp;omega,?_⟩;unfold trimG;rw[if_pos og]
      go_wp2_with fail
      refine(QT aq.out.gs bg.out.2.1 bg.out.1).mono ?_;rintro e dp ⟨dq,dr,ds,rfl,bh,cq,aT⟩;have dt:=qqh (aq.out.setGhosts aT cq (.inl bh));have du:Hid (Upd (fun j=>j=b) w (dp.setCell ⟨b,4,none⟩ (.slice dq dr ds))):=
       (dm.o.new aT (fun i aK e=>by have:=(az i e).1;have:=s.o.2.1;omega)).trans (zi _ _ _ _)
      have bi:=(aT.block b (zd aq.out.str) (fun e=>aq.out.gb e)).trans aq.out.str;have dw:=za bi 4;have f14:=zf bi 4;simp at dw;have dx:=qqh bh;clear aT cq bh bi dn;dsimp only;clear d0 d1 cT;go_wp2
      rw[qxr];go_ret2
      refine⟨k,0,restK K p,J,trimG few (G++[k]),E,F,_,rfl,⟨.inr ⟨rfl,cj.o⟩,cl.o⟩,?_,co.out _ dx.o,du.out⟩;rw[<-bg.out.2.2];exact dt.out
     .have dj:decide ((few:Int)<(G.length:Int)+1)=false:=by simp;omega
      go_quiet(fail)
      have dy:Hid (G++[k]=trimG few (G++[k])):=by show _=_;unfold trimG;rw[if_neg og]
      go_wp2
      rw[qxr];go_ret2
      refine⟨k,0,restK K p,J,trimG few (G++[k]),E,F,_,rfl,⟨.inr ⟨rfl,cj.o⟩,cl.o⟩,?_,co.out _ rfl,ch.o.drewN _⟩;rw[<-dy.out];exact bc.o.keep ((uur (fun _=>False) _).drewN _) (fun _ _ h=>h)
    .have au:=qqh aL;clear aL;obtain⟨L,e7,aa,cr,bT⟩:=SetAt.drop bN.out (x:=k) aJ 0;have ct:=Y2 aa cr;clear aa cr bT;go_wp2
     go_roundg (gk-1)
     case measure=>omega
     case rel=>
      refine⟨h+1,oM,by go_num,updB J k false,ct.out.1,?_,⟨oM,(Jc oM ai.o X.o am.o au.o).symm.trans q.out.2.2.1.2⟩,fun j n cO=>?_,Y.o.trans ct.out.2⟩
      .intro x hx;by_cases e:x=k
       .subst e;simp[updB]at hx
       .simp only[updB,if_neg e]at hx;exact q.out.2.1 x hx
      .by_cases V:j<h
       .refine ⟨(q.out.2.2.2.1 j n V).1,fun e=>?_⟩;unfold updB;split
        .rfl
        .exact (q.out.2.2.2.1 j n V).2 e
       .have b3:p=j:=by rw[X.o,show h=j by omega];exact qXt n
        subst b3;rw[<-ai.o];exact⟨.inr (q.out.2.1 k au.o),fun _=>by simp[updB]⟩
  .have dz:Hid (∀x∈K,fm x=false\/A x=true):=by
    intro x hx;obtain⟨j,n,rfl⟩:=qyw hx;exact(q.out.2.2.2.1 j n oM).1
   have dA:Hid (evR fm few K A G=(0,14,K,A,G)):=by
    show _=_;unfold evR;rw[<-q.out.2.2.1.2,show gk=0 by omega];rfl
   have dB:Hid (CkMem wr b mb N ad ae most few K A G):=(a8.o.keep q.out.2.2.2.2 (fun j n e=>by subst e;have:=bv.o.slt _ n;have:=s.o.2.1;omega)).toCkMem;have dC:Hid (Upd (fun j=>j=b) w wr):=(aH.out.new q.out.2.2.2.2 (fun i aK e=>by have:=s.o.2.1;omega)).mono fE;go_wp2
   rw[qxr];go_ret2
   exact⟨0,14,K,A,G,mb,ad,ae,rfl,⟨.inl ⟨rfl,rfl,rfl,rfl,rfl,dz.out⟩,dA.out⟩,dB.out,fun j n=> .inl n,dC.out⟩
theorem evict_ck(h:Ck S w b N most few K A G)(M:∀j,w.heap.size<=j->S j)(F:Value)(fm:Int->Bool)(O:MayIs F fm w):
  Calls prog 424 #[.pointer (some ⟨b,0,none⟩),mayV F] w fun e w'=>∃n q s D E,e=.returned (.tuple #[.int .i64 n,.int .i64 q])/\
   EvOut fm few K A G n q s D E/\Ck S w' b N most few s D E/\Upd S w w':=by
 obtain⟨mb,Z,a6,h,J⟩:=h;refine(Je h F fm O).mono ?_;rintro e w' ⟨n,q,s,D,E,P,T,U,rfl,L,V,X,Y⟩;exact⟨n,q,s,D,E,rfl,L,⟨P,T,U,⟨V,L.good h.good⟩,fun j H=>(X j H).elim (J j) (M j)⟩,Y.mono (fun j _ H=>by subst H;exact J _ (.inl rfl))⟩
end EvG
section
open Go.Shelf
attribute [local go_sem] qYb
abbrev It7:=Int×Bool
abbrev zcO(x:It7):Array Value:= #[.int .i64 x.1,.bool x.2]
def kaL(K:List Int)(A:Int->Bool):List It7:=K.map fun k=>(k,A k)
theorem qX(K:List Int)(A:Int->Bool):(kaL K A).length=K.length:=by simp[kaL]
theorem Jf(K:List Int)(A:Int->Bool){k:Nat}(h:k<K.length):(kaL K A).take (k+1)=(kaL K A).take k++[(K[k],A K[k])]:=by
 rw[qXl (by rw[qX];exact h)];simp[kaL]
theorem Wc{β:Type}{B:Nat}{j:β->World->Prop}(q:AbidesFrom B j){s:β}{n:World}(h:j s W)(hu:Upd (fun _=>False) W n):j s n:=
 q s W n none h ⟨hu.os,hu.tape,hu.output,hu.size,fun k D _=>hu.block k D id⟩ (fun r e=>by cases e)
theorem zfb(n:Nat)(aD:2<=n)(S:Nat->Prop)(l M D mb N:Nat)(K:List Int)(A:Int->Bool)(v:Value)
  (aE:K.length<=4096) (O:∀x∈K,InR x) (hv:∀g,v.ownBlock=some g->¬S g) (ad:¬S D) (ae:¬S mb) (q T:List It7->World->Prop) (af:Nat) (ag:AbidesFrom af q)
  (ah:∀j (x:It7) W,q j W->j.length<K.length->YieldAt Fence.wide (n-1) prog l (zcO x) W fun e s=>
   (e=.returned (.bool true)/\q (j++[x]) s/\Upd S W s)\/(e=.returned (.bool false)/\T (j++[x]) s))
  (W:World) (aF:W.cell? ⟨M,0,none⟩=some v) (U:W.cell? ⟨D,0,none⟩=some (.map (some mb))) (F:Sl W 3 1 v K.length (ints K)) (V:SetAt W mb N A) (ai:q [] W):
  CallsIn Fence.wide n prog 468 #[.func (.yield l) #[] #[],.pointer (some ⟨M,0,none⟩),.pointer (some ⟨D,0,none⟩)] W fun e s=>(∃v,e=.returned v)/\
   ((∃X,X=kaL K A/\q X s)\/(∃j,j<+:kaL K A/\T j s)):=by
 have aj:=qqh F;have ak:=qqh V;have am:=qqh hv;have an:=qqh O;have ao:=(zE U).2;obtain⟨aG,c,rfl⟩:=F.rd.j6;clear F V hv O;refine callsIn_of_wp func468 rfl trivial ?_ rfl;simp only[ntmps468,qXi,qza,qzd,Nat.reduceAdd,Nat.reduceSub,qxi,qxj,qXc,qxy,qzv,qxz]
 gi_wp2
 gi_loopw [8] (fun i wr=>∃k:Nat,k<=K.length/\i=.int .i64 k/\q ((kaL K A).take k) wr/\Upd S W wr)
  (fun i _=>K.length-(intOf i).toNat)
 case atStart=>exact⟨0,qXz _,rfl,ai,uur _ _⟩
 case round=>
  obtain⟨k,aH,rfl,Y,E⟩:=hrel;have aI:wr.cell? ⟨D,0,none⟩=some (.map (some mb)):=(E.cellAt ao ad).trans U;by_cases hlt:k<K.length
  .have Z:=aj.o.keep E am.o;obtain⟨gk,ok,ck,ap,aq,a6⟩:=Z.rd.at oM;cases ap;have ar:=a6 k _ (yh hlt);have au:=qqh (ak.o.keep E ae);have H:Hid ((kaL K A).take (k+1)=(kaL K A).take k++[(K[k],A K[k])]):=Jf K A hlt;have av:Hid (((kaL K A).take k).length<K.length):=by show _<_;rw[qzg,qX];omega
   have a7:InR K[k]:=an.o _ (qyv hlt);obtain⟨x,hx⟩:=qqe (K[k]);rw[<-hx]at ar H a7;clear Z a6 aq hx
   gi_wp2_with fail
   refine⟨trivial,fun _=>oM,?_⟩;refine(callsIn_wide.2 (uX au.o x a7)).mono ?_;rintro e aw ⟨rfl,a8⟩;have J:=qqb a8;have ax:=qqh (Wc ag Y J);have ay:=qqh (E.trans (J.mono (S':=S) (fun _ _ h=>h.elim)));obtain⟨aJ,aK,assign,body,hy,L⟩:=ah _ (x,A x) aw ax.o av.o;simp only[zcO]at hy;clear a8 J
   gi_wp2
   refine⟨fun _=>oM,?_⟩;refine L.mono ?_;rintro e aL (⟨rfl,aa,ab⟩|⟨rfl,az⟩)
   .have aA:=qqh aa;have aB:=qqh (ay.o.trans ab);clear aa ab L
    gi_wp2
    go_roundw
    case rel=>exact⟨k+1,oM,oe,by rw[H.o];exact aA.o,aB.o⟩
    case measure=>simp[intOf];omega
   .clear L
    gi_wp2
    refine qYq (qYv rfl _ _ _) rfl ?_;exact⟨⟨_,rfl⟩,.inr ⟨_,by rw[<-H.o];exact List.take_prefix _ _,az⟩⟩
  .obtain rfl:k=K.length:=oM;have aC:Hid ((kaL K A).take K.length=kaL K A):=qXk (by rw[qX];exact qXp _)
   gi_wp2
   go_end0
   exact⟨⟨_,rfl⟩,.inl ⟨_,rfl,by rw[<-aC.o];exact Y⟩⟩
def zcP{α:Type}(enc:α->Array Value)(w:World)(gf:Nat)(lb:Array Value)(xs:List α):Prop:=
 (∀args w,(callFunc gf args).run prog w=.ok (.enter gf args) w)/\
 ∀(n:Nat),2<=n->∀(S:Nat->Prop),(∀j,S j->w.heap.size<=j)->∀w2,Below w.heap.size w w2->
  SeqStopsK Fence.wide n prog gf lb enc (Upd S) (fun ys=>ys=xs) (fun pre=>pre<+:xs) xs.length w2
theorem yk(h:∃u,W.cell? ⟨p,0,none⟩=some u):(W.setCell ⟨p,0,none⟩ v).cell? ⟨p,0,none⟩=some v:=by
 obtain⟨u,h⟩:=h;exact World.cell?_setCell_same W _ v h
theorem vC{q:Nat}(h:p≠q):(W.setCell ⟨q,0,none⟩ v).cell? ⟨p,0,none⟩=W.cell? ⟨p,0,none⟩:=
 World.cell?_of_block (a:=⟨p,0,none⟩) (w:=W) (Below.heap_setCell W ⟨q,0,none⟩ v p h)
theorem yl{q:Nat}{v':Value}(j:p≠q)(h:∃u,W.cell? ⟨p,0,none⟩=some u):((W.setCell ⟨q,0,none⟩ v').setCell ⟨p,0,none⟩ v).cell? ⟨p,0,none⟩=some v:=by
 obtain⟨u,h⟩:=h;exact yk ⟨u,(vC j).trans h⟩
theorem uu{o:Obj}(h:p<W.heap.size):(W.alloc o).cell? ⟨p,0,none⟩=W.cell? ⟨p,0,none⟩:=
 World.cell?_of_block (a:=⟨p,0,none⟩) (w:=W) (qxk W o p h)
theorem wC{n:Nat}{T:TypeId}(h:n=W.heap.size):(W.alloc (.cells #[v] T)).cell? ⟨n,0,none⟩=some v:=
 za (zc W _ h) 0
def Ti(w:World)(N:Nat)(K:List Int)(A:Int->Bool)(e:Ending)(w':World):Prop:=
 ∃Bs Bm v m2,e=.returned (.func (.func 468) #[] #[.pointer (some ⟨Bs,0,none⟩),.pointer (some ⟨Bm,0,none⟩)])/\
   w'.cell? ⟨Bs,0,none⟩=some v/\w'.cell? ⟨Bm,0,none⟩=some (.map (some m2))/\Sl w' 3 1 v K.length (ints K)/\SetAt w' m2 N A/\Below w.heap.size w w'
theorem zak{s D:World}{j n q:Nat}{e:Ending}(M:e=.returned (.func (.func 468) #[] #[.pointer (some ⟨j,0,none⟩),.pointer (some ⟨n,0,none⟩)]))
  (c1:W.cell? ⟨j,0,none⟩=some v) (c2:W.cell? ⟨n,0,none⟩=some (.map (some q))) (O:Sl s 3 1 v K.length (ints K)) (E:Upd (fun _=>False) s D) (P:SetAt D q N A) (hu:Upd (fun F=>F=j\/F=n) D W)
  (hv:∀g,v.ownBlock=some g->g≠j/\g≠n) (H:q≠j/\q≠n) (T:Upd (fun _=>False) w s) (J:w.heap.size<=j/\w.heap.size<=n):Ti w N K A e W:=
 ⟨j,n,v,q,M,c1,c2,(O.keep E (fun _ _ h=>h)).keep hu (fun g L h=>h.elim (hv g L).1 (hv g L).2),P.keep hu (fun h=>h.elim H.1 H.2),
  zj (zj (zj (qxl _ w) T (qXp _) (fun _ h=>h.elim)) E (qXp _) (fun _ h=>h.elim)) hu (qXp _) (fun _j h=>h.elim (fun e=>e▸J.1) (fun e=>e▸J.2))⟩
theorem zal{mb:Nat}{aX aZ:Value}(h:CkAt w b mb N aX aZ most few K A G):
  Calls prog 443 #[.pointer (some ⟨b,0,none⟩)] w (Ti w N K A):=by
 have D:=qqh (fun(W:World) (Y:Upd (fun _=>False) w W)=>h.keep Y (fun _ _ h=>h));have a6:=h.blt;have bd:=h.kle;have ah:K.length<=4096:=oM;have be:=h.c.2.2.1;have bf:=h.c.2.2.2.1;clear h;have bg:¬b=w.heap.size:=oM;have bh:¬w.heap.size=b:=oM;have bi:¬b=w.heap.size+1:=oM;have bj:¬w.heap.size+1=b:=oM;have b0:=qqh (D.o (w.drew) ((uur _ _).drew));have b1:=qqh (D.o ((w.alloc (.cells #[.slice none 0 0] 87)).drew) (((uur _ _).alloc _).drew));have ak:Hid (((w.alloc (.cells #[.slice none 0 0] 87)).drew).heap[w.heap.size]?=some (.cells #[.slice none 0 0] 87 (0,0))):=zc w _ rfl;have b2:=qqh (D.o ((w.alloc (.cells #[.map none] 330)).drew) (((uur _ _).alloc _).drew));have am:Hid (((w.alloc (.cells #[.map none] 330)).drew).heap[w.heap.size]?=some (.cells #[.map none] 330 (0,0))):=zc w _ rfl;have b3:=qqh (D.o (((w.alloc (.cells #[.slice none 0 0] 87)).alloc (.cells #[.map none] 330)).drew) ((((uur _ _).alloc _).alloc _).drew));have an:Hid ((((w.alloc (.cells #[.slice none 0 0] 87)).alloc (.cells #[.map none] 330)).drew).heap[w.heap.size]?=some (.cells #[.slice none 0 0] 87 (0,0))):=((((uur (fun _=>False) (w.alloc (.cells #[.slice none 0 0] 87))).alloc (.cells #[.map none] 330)).block w.heap.size oe id).trans (zc w _ rfl))
 have ao:Hid ((((w.alloc (.cells #[.slice none 0 0] 87)).alloc (.cells #[.map none] 330)).drew).heap[w.heap.size+1]?=some (.cells #[.map none] 330 (0,0))):=zc (w.alloc _) _ oe;have b4:=qqh (D.o (((w.alloc (.cells #[.map none] 330)).alloc (.cells #[.slice none 0 0] 87)).drew) ((((uur _ _).alloc _).alloc _).drew));have ap:Hid ((((w.alloc (.cells #[.map none] 330)).alloc (.cells #[.slice none 0 0] 87)).drew).heap[w.heap.size]?=some (.cells #[.map none] 330 (0,0))):=((((uur (fun _=>False) (w.alloc (.cells #[.map none] 330))).alloc (.cells #[.slice none 0 0] 87)).block w.heap.size oe id).trans (zc w _ rfl))
 have aq:Hid ((((w.alloc (.cells #[.map none] 330)).alloc (.cells #[.slice none 0 0] 87)).drew).heap[w.heap.size+1]?=some (.cells #[.slice none 0 0] 87 (0,0))):=zc (w.alloc _) _ oe;go_enter func443,ntmps443
 go_wp2
 go_region_held3 (fun W=>W.cell? ⟨b,2,none⟩=some aX/\W.cell? ⟨b,3,none⟩=some (.map (some mb))) (go_keep)
  (first
  |((go_at_call 302;(with_reducible refine(yE b0.out.ks.rd ah).mono ?_);rintro e j ⟨v3,rfl,O,T,q⟩;obtain⟨ae,af,rfl⟩:=O.rd.j6;have E:Upd (fun _=>False) w j:=Upd.trans ((uur _ _).drew) (uuo q);have a7:Hid (∀W,Upd (fun _=>False) j W->True/\True):=fun W Y=>⟨trivial,trivial⟩;have ar:b<j.heap.size:=qXs a6 E.size;have au:¬b=j.heap.size:=oM;have nx1:¬j.heap.size=b:=oM;have av:¬b=j.heap.size+1:=oM;have aw:¬j.heap.size+1=b:=oM;have ax:=(D.o _ E).c.2.2.1;have ay:=(D.o _ E).c.2.2.2.1;have F:=Y4 O T q E;clear O T q E))
  |((go_at_call 302;(with_reducible refine(yE b1.out.ks.rd ah).mono ?_);rintro e j ⟨v3,rfl,O,T,q⟩;obtain⟨ae,af,rfl⟩:=O.rd.j6;have E:Upd (fun _=>False) w j:=Upd.trans (((uur _ _).alloc _).drew) (uuo q);have a7:Hid (∀W,Upd (fun _=>False) j W->W.heap[w.heap.size]?=some (.cells #[.slice none 0 0] 87 (0,0))/\True):=fun W Y=>⟨(Y.block _ (qXs (zd ak.out) q.size) id).trans ((q.block _ (zd ak.out)).trans ak.out),trivial⟩;have z0:w.heap.size<j.heap.size:=qXs (zd ak.out) q.size;have aQ:=qXx z0;have aR:=qXw z0;have ar:b<j.heap.size:=qXs a6 E.size;have au:¬b=j.heap.size:=oM;have nx1:¬j.heap.size=b:=oM;have av:¬b=j.heap.size+1:=oM;have aw:¬j.heap.size+1=b:=oM;have ax:=(D.o _ E).c.2.2.1;have ay:=(D.o _ E).c.2.2.2.1;have F:=Y4 O T q E;clear O T q E))
  |((go_at_call 302;(with_reducible refine(yE b2.out.ks.rd ah).mono ?_);rintro e j ⟨v3,rfl,O,T,q⟩;obtain⟨ae,af,rfl⟩:=O.rd.j6;have E:Upd (fun _=>False) w j:=Upd.trans (((uur _ _).alloc _).drew) (uuo q);have a7:Hid (∀W,Upd (fun _=>False) j W->W.heap[w.heap.size]?=some (.cells #[.map none] 330 (0,0))/\True):=fun W Y=>⟨(Y.block _ (qXs (zd am.out) q.size) id).trans ((q.block _ (zd am.out)).trans am.out),trivial⟩;have z0:w.heap.size<j.heap.size:=qXs (zd am.out) q.size;have aQ:=qXx z0;have aR:=qXw z0;have ar:b<j.heap.size:=qXs a6 E.size;have au:¬b=j.heap.size:=oM;have nx1:¬j.heap.size=b:=oM;have av:¬b=j.heap.size+1:=oM;have aw:¬j.heap.size+1=b:=oM;have ax:=(D.o _ E).c.2.2.1;have ay:=(D.o _ E).c.2.2.2.1;have F:=Y4 O T q E;clear O T q E))
  |((go_at_call 302;(with_reducible refine(yE b3.out.ks.rd ah).mono ?_);rintro e j ⟨v3,rfl,O,T,q⟩;obtain⟨ae,af,rfl⟩:=O.rd.j6;have E:Upd (fun _=>False) w j:=Upd.trans ((((uur _ _).alloc _).alloc _).drew) (uuo q);have a7:Hid (∀W,Upd (fun _=>False) j W->W.heap[w.heap.size]?=some (.cells #[.slice none 0 0] 87 (0,0))/\W.heap[w.heap.size+1]?=some (.cells #[.map none] 330 (0,0))):=fun W Y=>⟨(Y.block _ (qXs (zd an.out) q.size) id).trans ((q.block _ (zd an.out)).trans an.out),(Y.block _ (qXs (zd ao.out) q.size) id).trans ((q.block _ (zd ao.out)).trans ao.out)⟩;have z0:w.heap.size<j.heap.size:=qXs (zd an.out) q.size;have aQ:=qXx z0;have aR:=qXw z0;have ai:w.heap.size+1<j.heap.size:=qXs (zd ao.out) q.size;have b5:=qXx ai;have b6:=qXw ai;have ar:b<j.heap.size:=qXs a6 E.size;have au:¬b=j.heap.size:=oM;have nx1:¬j.heap.size=b:=oM;have av:¬b=j.heap.size+1:=oM;have aw:¬j.heap.size+1=b:=oM;have ax:=(D.o _ E).c.2.2.1;have ay:=(D.o _ E).c.2.2.2.1;have F:=Y4 O T q E;clear O T q E))
  |((go_at_call 302;(with_reducible refine(yE b4.out.ks.rd ah).mono ?_);rintro e j ⟨v3,rfl,O,T,q⟩;obtain⟨ae,af,rfl⟩:=O.rd.j6;have E:Upd (fun _=>False) w j:=Upd.trans ((((uur _ _).alloc _).alloc _).drew) (uuo q);have a7:Hid (∀W,Upd (fun _=>False) j W->W.heap[w.heap.size]?=some (.cells #[.map none] 330 (0,0))/\W.heap[w.heap.size+1]?=some (.cells #[.slice none 0 0] 87 (0,0))):=fun W Y=>⟨(Y.block _ (qXs (zd ap.out) q.size) id).trans ((q.block _ (zd ap.out)).trans ap.out),(Y.block _ (qXs (zd aq.out) q.size) id).trans ((q.block _ (zd aq.out)).trans aq.out)⟩;have z0:w.heap.size<j.heap.size:=qXs (zd ap.out) q.size;have aQ:=qXx z0;have aR:=qXw z0;have ai:w.heap.size+1<j.heap.size:=qXs (zd aq.out) q.size;have b5:=qXx ai;have b6:=qXw ai;have ar:b<j.heap.size:=qXs a6 E.size;have au:¬b=j.heap.size:=oM;have nx1:¬j.heap.size=b:=oM;have av:¬b=j.heap.size+1:=oM;have aw:¬j.heap.size+1=b:=oM;have ax:=(D.o _ E).c.2.2.1;have ay:=(D.o _ E).c.2.2.2.1;have F:=Y4 O T q E;clear O T q E))
  |((go_at_call 446;(with_reducible refine(yW (w:=j) (D.o _ (F.out.2.2.2.trans (uur _ _))).set).mono ?_);rintro e n ⟨rfl,U,L⟩;have s:Upd (fun _=>False) j n:=Upd.trans (uur _ _) (uuo L);obtain⟨H,J⟩:=a7.out _ s;(try(have a8:=za H 0));(try(have az:=zf H 0));(try(have aa:=za J 0));(try(have aA:=zf J 0));(try simp at a8);(try simp at aa);(try(have V:=zd H));(try(have X:=zd J));(try(have aB:=qXx V));(try(have aC:=qXw V));(try(have aD:=qXx X));(try(have aE:=qXw X));have aF:=qqh H;have aG:=qqh J;clear H J;have aH:Hid True:=trivial;have aI:Hid True:=trivial;have aJ:b<n.heap.size:=qXs (qXs a6 F.out.2.2.2.size) s.size;have aK:¬b=n.heap.size:=oM;have aL:¬n.heap.size=b:=oM;have aM:¬b=n.heap.size+1:=oM;have aN:¬n.heap.size+1=b:=oM;have aO:=(D.o _ (F.out.2.2.2.trans s)).c.2.2.1;have aP:=(D.o _ (F.out.2.2.2.trans s)).c.2.2.2.1;have ab:=Y3 U L s;clear U L s))
  |((go_at_call 446;(with_reducible refine(yW (w:=(j.alloc (.cells #[.slice none 0 0] 87))) (D.o _ (F.out.2.2.2.trans ((uur _ _).alloc _))).set).mono ?_);rintro e n ⟨rfl,U,L⟩;have s:Upd (fun _=>False) j n:=Upd.trans ((uur _ _).alloc _) (uuo L);obtain⟨H,J⟩:=a7.out _ s;(try(have a8:=za H 0));(try(have az:=zf H 0));(try(have aa:=za J 0));(try(have aA:=zf J 0));(try simp at a8);(try simp at aa);(try(have V:=zd H));(try(have X:=zd J));(try(have aB:=qXx V));(try(have aC:=qXw V));(try(have aD:=qXx X));(try(have aE:=qXw X));have aF:=qqh H;have aG:=qqh J;clear H J;have M:n.heap[j.heap.size]?=some (.cells #[.slice none 0 0] 87 (0,0)):=(L.block _ oH).trans (zc j _ rfl);have ad:=za M 0;have aS:=zf M 0;simp at ad;have aH:=qqh M;have Z:=zd M;have aT:=qXx Z;have aU:=qXw Z;clear M;have aI:Hid True:=trivial;have aJ:b<n.heap.size:=qXs (qXs a6 F.out.2.2.2.size) s.size;have aK:¬b=n.heap.size:=oM;have aL:¬n.heap.size=b:=oM;have aM:¬b=n.heap.size+1:=oM;have aN:¬n.heap.size+1=b:=oM;have aO:=(D.o _ (F.out.2.2.2.trans s)).c.2.2.1;have aP:=(D.o _ (F.out.2.2.2.trans s)).c.2.2.2.1;have ab:=Y3 U L s;clear U L s))
  |((go_at_call 446;(with_reducible refine(yW (w:=(j.alloc (.cells #[.map none] 330))) (D.o _ (F.out.2.2.2.trans ((uur _ _).alloc _))).set).mono ?_);rintro e n ⟨rfl,U,L⟩;have s:Upd (fun _=>False) j n:=Upd.trans ((uur _ _).alloc _) (uuo L);obtain⟨H,J⟩:=a7.out _ s;(try(have a8:=za H 0));(try(have az:=zf H 0));(try(have aa:=za J 0));(try(have aA:=zf J 0));(try simp at a8);(try simp at aa);(try(have V:=zd H));(try(have X:=zd J));(try(have aB:=qXx V));(try(have aC:=qXw V));(try(have aD:=qXx X));(try(have aE:=qXw X));have aF:=qqh H;have aG:=qqh J;clear H J;have M:n.heap[j.heap.size]?=some (.cells #[.map none] 330 (0,0)):=(L.block _ oH).trans (zc j _ rfl);have ad:=za M 0;have aS:=zf M 0;simp at ad;have aH:=qqh M;have Z:=zd M;have aT:=qXx Z;have aU:=qXw Z;clear M;have aI:Hid True:=trivial;have aJ:b<n.heap.size:=qXs (qXs a6 F.out.2.2.2.size) s.size;have aK:¬b=n.heap.size:=oM;have aL:¬n.heap.size=b:=oM;have aM:¬b=n.heap.size+1:=oM;have aN:¬n.heap.size+1=b:=oM;have aO:=(D.o _ (F.out.2.2.2.trans s)).c.2.2.1;have aP:=(D.o _ (F.out.2.2.2.trans s)).c.2.2.2.1;have ab:=Y3 U L s;clear U L s))
  |((go_at_call 446;(with_reducible refine(yW (w:=((j.alloc (.cells #[.slice none 0 0] 87)).alloc (.cells #[.map none] 330))) (D.o _ (F.out.2.2.2.trans (((uur _ _).alloc _).alloc _))).set).mono ?_);rintro e n ⟨rfl,U,L⟩;have s:Upd (fun _=>False) j n:=Upd.trans (((uur _ _).alloc _).alloc _) (uuo L);obtain⟨H,J⟩:=a7.out _ s;(try(have a8:=za H 0));(try(have az:=zf H 0));(try(have aa:=za J 0));(try(have aA:=zf J 0));(try simp at a8);(try simp at aa);(try(have V:=zd H));(try(have X:=zd J));(try(have aB:=qXx V));(try(have aC:=qXw V));(try(have aD:=qXx X));(try(have aE:=qXw X));have aF:=qqh H;have aG:=qqh J;clear H J;have M:n.heap[j.heap.size]?=some (.cells #[.slice none 0 0] 87 (0,0)):=(L.block _ oH).trans (((((uur (fun _=>False) (j.alloc (.cells #[.slice none 0 0] 87))).alloc (.cells #[.map none] 330)).block j.heap.size oe id).trans (zc j _ rfl)));have ad:=za M 0;have aS:=zf M 0;simp at ad;have aH:=qqh M;have Z:=zd M;have aT:=qXx Z;have aU:=qXw Z;clear M;have m1:n.heap[j.heap.size+1]?=some (.cells #[.map none] 330 (0,0)):=(L.block _ oH).trans (zc (j.alloc _) _ oe);have aV:=za m1 0;have b7:=zf m1 0;simp at aV;have aI:=qqh m1;have aj:=zd m1;have b8:=qXx aj;have b9:=qXw aj;clear m1;have aJ:b<n.heap.size:=qXs (qXs a6 F.out.2.2.2.size) s.size;have aK:¬b=n.heap.size:=oM;have aL:¬n.heap.size=b:=oM;have aM:¬b=n.heap.size+1:=oM;have aN:¬n.heap.size+1=b:=oM;have aO:=(D.o _ (F.out.2.2.2.trans s)).c.2.2.1;have aP:=(D.o _ (F.out.2.2.2.trans s)).c.2.2.2.1;have ab:=Y3 U L s;clear U L s))
  |((go_at_call 446;(with_reducible refine(yW (w:=((j.alloc (.cells #[.map none] 330)).alloc (.cells #[.slice none 0 0] 87))) (D.o _ (F.out.2.2.2.trans (((uur _ _).alloc _).alloc _))).set).mono ?_);rintro e n ⟨rfl,U,L⟩;have s:Upd (fun _=>False) j n:=Upd.trans (((uur _ _).alloc _).alloc _) (uuo L);obtain⟨H,J⟩:=a7.out _ s;(try(have a8:=za H 0));(try(have az:=zf H 0));(try(have aa:=za J 0));(try(have aA:=zf J 0));(try simp at a8);(try simp at aa);(try(have V:=zd H));(try(have X:=zd J));(try(have aB:=qXx V));(try(have aC:=qXw V));(try(have aD:=qXx X));(try(have aE:=qXw X));have aF:=qqh H;have aG:=qqh J;clear H J;have M:n.heap[j.heap.size]?=some (.cells #[.map none] 330 (0,0)):=(L.block _ oH).trans (((((uur (fun _=>False) (j.alloc (.cells #[.map none] 330))).alloc (.cells #[.slice none 0 0] 87)).block j.heap.size oe id).trans (zc j _ rfl)));have ad:=za M 0;have aS:=zf M 0;simp at ad;have aH:=qqh M;have Z:=zd M;have aT:=qXx Z;have aU:=qXw Z;clear M;have m1:n.heap[j.heap.size+1]?=some (.cells #[.slice none 0 0] 87 (0,0)):=(L.block _ oH).trans (zc (j.alloc _) _ oe);have aV:=za m1 0;have b7:=zf m1 0;simp at aV;have aI:=qqh m1;have aj:=zd m1;have b8:=qXx aj;have b9:=qXw aj;clear m1;have aJ:b<n.heap.size:=qXs (qXs a6 F.out.2.2.2.size) s.size;have aK:¬b=n.heap.size:=oM;have aL:¬n.heap.size=b:=oM;have aM:¬b=n.heap.size+1:=oM;have aN:¬n.heap.size+1=b:=oM;have aO:=(D.o _ (F.out.2.2.2.trans s)).c.2.2.1;have aP:=(D.o _ (F.out.2.2.2.trans s)).c.2.2.2.1;have ab:=Y3 U L s;clear U L s)))
 all_goals
  go_wp2
  go_ret
  have ba:=F.out.2.2.1.size;have bb:=ab.out.2.1.size;have bn:=ab.out.2.2.size;have bc:=ab.out.1.lt;simp only[qYm,World.size_drew]at ba bb bc;have aY:∀g,(Value.slice ae K.length af).ownBlock=some g->g<j.heap.size:=fun g ag=>F.out.1.lt ag;have aW:∀g,(Value.slice ae K.length af).ownBlock=some g->_<=g:=F.out.2.1;simp only[qYm,World.size_drew]at aW;refine zak rfl ?c1 ?c2 F.out.1 ab.out.2.2 ab.out.1 ?u ?v ?m F.out.2.2.2 ?B
  case u=>(repeat (first|exact uur _ _|refine Upd.alloc ?_ _|refine Upd.setCell ?_ _ (fun _=>oe) _))
  case B=>exact⟨oM,oM⟩
  case m=>(try simp only[qYm]);exact⟨oM,oM⟩
  case v=>exact fun g ag=>⟨by have:=aY g ag;have:=aW g ag;omega,by have:=aY g ag;have:=aW g ag;omega⟩
  case c1=>with_reducible first|(first|exact wC oe|exact yl oM ⟨_,‹_›⟩|exact yk ⟨_,‹_›⟩)|(refine(vC ?_).trans ?_;omega;first|exact wC oe|exact yl oM ⟨_,‹_›⟩|exact yk ⟨_,‹_›⟩)|(refine(uu ?_).trans ?_;((try simp only[qYm,World.size_setCell]);omega);first|exact wC oe|exact yl oM ⟨_,‹_›⟩|exact yk ⟨_,‹_›⟩)
  case c2=>(try simp only[qYm]);with_reducible first|(first|exact wC oe|exact yl oM ⟨_,‹_›⟩|exact yk ⟨_,‹_›⟩)|(refine(vC ?_).trans ?_;omega;first|exact wC oe|exact yl oM ⟨_,‹_›⟩|exact yk ⟨_,‹_›⟩)|(refine(uu ?_).trans ?_;((try simp only[qYm,World.size_setCell]);omega);first|exact wC oe|exact yl oM ⟨_,‹_›⟩|exact yk ⟨_,‹_›⟩)
theorem VP(h:Ck S w b N most few K A G):
  Calls prog 443 #[.pointer (some ⟨b,0,none⟩)] w fun e w'=>∃n q,e=.returned (.func (.func n) #[] q)/\zcP zcO w' n q (kaL K A)/\Below w.heap.size w w':=by
 obtain⟨mb,ab,ad,h,-⟩:=h;refine(zal h).mono ?_;rintro e w1 ⟨H,J,v,L,rfl,c1,c2,s,D,M⟩;refine⟨_,_,rfl,⟨enters_of func468 kR rfl,fun O T S U ae V=>?_⟩,M⟩;intro l X Y W Z a6 _ E a7;have hlt:∀{F:Nat},F<w1.heap.size->¬S F:=fun af e=>by have:=U _ e;omega
 have a8:=qqb V;have j:Upd (fun _=>False) w1 W:=a8.trans (uuo Z);rw[qX]at E;exact zfb O T S l H J L N K A v (by have:=h.kle;omega) h.good.kr (fun g aa=>hlt (s.lt aa)) (hlt (zE c2).2) (hlt D.lt) X Y W.heap.size a6 E W ((j.cellAt (zE c1).2 id).trans c1) ((j.cellAt (zE c2).2 id).trans c2)
  (s.keep j (fun _ _ h=>h)) (D.keep j id) a7
end
section
open Go.Maps
theorem Yz{y:Int}(e:Lit.int .i64 x=Lit.int .i64 y):x=y:=by injection e
section
variable{α:Type}
open Classical in
noncomputable def decR (enc:α->Value) (v:Value):Option (DataW α×List MemPlace):=if h:∃e,v=enc e then some (.held (Classical.choose h),[])else none
variable{enc:α->Value}
theorem tC(j:∀x y,enc x=enc y->x=y)(e:α):decR enc (enc e)=some (.held e,[]):=by
 have h:∃n,enc e=enc n:=⟨e,rfl⟩
 unfold decR;rw[dif_pos h,<-j _ _ (Classical.choose_spec h)]
theorem tD{y:DataW α×List MemPlace}(h:decR enc v=some y):∃e,v=enc e/\y=(.held e,[]):=by
 unfold decR at h;split at h
 .rename_i hx
  cases h;exact⟨_,Classical.choose_spec hx,rfl⟩
 .cases h
def VQ(D:DataW α)(f:Int->Option α):Prop:=∀s:Int,Maps.has D (.int .i64 s)=(f s).isSome/\∀c,f s=some c->∀z,D.atKey (.int .i64 s) z=.held c
variable(enc)
def MapG(w:World)(mb N:Nat)(f:Int->Option α):Prop:=∃D:DataW α,w.ownsMap prog 3 (decR enc) mb N D/\VQ D f
def YA(w:World)(mb r N:Nat)(f:Int->Option α)(left:Int->Bool)(cnt:Nat):Prop:=
 ∃(D:DataW α) (lf:Lit->Bool),w.ranges prog 3 (decR enc) mb r N D lf cnt/\VQ D f/\∀s:Int,lf (.int .i64 s)=left s
variable{enc}
variable{w:World}{mb N:Nat}{f:Int->Option α}
theorem MapG.lt(h:MapG enc w mb N f):mb<w.heap.size:=by obtain⟨D,h,_⟩:=h;exact h.lt
theorem MapG.keep(h:MapG enc w mb N f)(hu:Upd S w w')(n:¬S mb):MapG enc w' mb N f:=by
 obtain⟨q,⟨s,D,j,r⟩,E⟩:=h;exact⟨q,⟨s,D,(hu.block _ (zd j) n).trans j,r⟩,E⟩
theorem MapG.mono{j:Nat}(h:MapG enc w mb N f)(n:N<=j):MapG enc w mb j f:=by obtain⟨q,h,s⟩:=h;exact⟨q,h.mono n,s⟩
theorem MapG.made(w:World):MapG enc (w.alloc (.map #[] 0)) w.heap.size 0 (fun _=>none):=
 ⟨.map [],World.ownsMap_made w _ _ _,fun s=>⟨rfl,fun c h=>by cases h⟩⟩
theorem Zcg13{P:Prop}(h:P:=by
  have:c=(f x).getD z0:=by
   cases hx:f x with
   |none=>
    have q:=(n x).1;rw[hx]at q;have:=atKey_of_not_has (D:=H) q (.held z0);rw[this]at j;exact(DataW.held.inj j.1).symm
   |some O=>
    have:=(n x).2 O hx (.held z0);rw[this]at j;exact(DataW.held.inj j.1).symm
  rw[this]):P:=h
theorem MapG.look(h:MapG enc w mb N f)(s:∀x y,enc x=enc y->x=y)(E:prog.underlying t=some (.map 3 e)){z0:α}(F:(zeroValue e).run prog w=.ok (enc z0) w)(h1: -9223372036854775808<=x)(h2:x<9223372036854775808):
  (Instr.lookup t (.map (some mb)) (.int .i64 x) true).run prog w=.ok (.tuple #[enc ((f x).getD z0),.bool (f x).isSome]) w:=by
 obtain⟨H,J,n⟩:=h;obtain⟨v,ps,L,M⟩:=J.look_ok yC E F (tC s z0) (qM h1 h2);obtain⟨c,rfl,j⟩:=tD M;simp only[qYe]at j;rw[L,(n x).1];exact Zcg13
theorem MapG.drop(h:MapG enc w mb N f)(F:prog.underlying t=some (.map 3 e))(h1: -9223372036854775808<=x)(h2:x<9223372036854775808)(q:TypeId):
  ∃w',(Builtin.delete_ #[t,3] q #[.map (some mb),.int .i64 x]).run prog w=.ok (.tuple #[]) w'/\MapG enc w' mb N (fun j=>if j=x then none else f j)/\Upd (fun H=>H=mb) w w'/\w'.heap.size=w.heap.size:=by
 obtain⟨P,J,s⟩:=h;obtain⟨w',L,M,D⟩:=J.drop yC F (qM h1 h2) q;refine⟨w',L,⟨_,M,fun j=>?_⟩,yD D,yn D⟩;by_cases n:j=x
 .subst n;simp[has_del_same]
 .have E:Lit.int .i64 j≠Lit.int .i64 x:=fun e=>n (Yz e);simp only[if_neg n,has_del_other E];exact⟨(s j).1,fun c O z=>by rw[atKey_del_other E];exact(s j).2 c O z⟩
theorem MapG.store(h:MapG enc w mb N f)(J:∀x y,enc x=enc y->x=y)(L:prog.underlying t=some (.map 3 e))(h1: -9223372036854775808<=x)(h2:x<9223372036854775808)(c:α)(M:N<maxLen):
  ∃w',(Instr.mapUpdate t (.map (some mb)) (.int .i64 x) (enc c)).run prog w=.ok () w'/\MapG enc w' mb (N+1) (fun j=>if j=x then some c else f j)/\Upd (fun O=>O=mb) w w'/\w'.heap.size=w.heap.size:=by
 obtain⟨X,q,s⟩:=h;have D:=q.isMap;have E:∀y:Int,WideAt.IsKeyLit (.int .i64 y):=fun _=>trivial;obtain⟨w',P,T,F⟩:=q.store (ps:=[]) (d:=.held c) yC L M (qM h1 h2) (tC J c);refine⟨w',P,⟨_,T,fun j=>?_⟩,yD F,yn F⟩;by_cases n:j=x
 .subst n;simp only[if_pos];exact⟨by rw[has_put_same D (E _)];rfl,fun Y U z=>by obtain rfl:=qYd U;exact atKey_put_same D (E _) _ _⟩
 .have H:Lit.int .i64 j≠Lit.int .i64 x:=fun e=>n (Yz e);simp only[if_neg n,has_put_other H];exact⟨(s j).1,fun c V z=>by rw[atKey_put_other H];exact(s j).2 c V z⟩
theorem MapG.look1(h:MapG enc w mb N f)(s:∀x y,enc x=enc y->x=y)(E:prog.underlying t=some (.map 3 e)){z0:α}(F:(zeroValue e).run prog w=.ok (enc z0) w)(h1: -9223372036854775808<=x)(h2:x<9223372036854775808):
  (Instr.lookup t (.map (some mb)) (.int .i64 x) false).run prog w=.ok (enc ((f x).getD z0)) w:=by
 obtain⟨H,J,n⟩:=h;obtain⟨v,ps,L,M⟩:=J.lookup yC E F (tC s z0) (qM h1 h2);obtain⟨c,rfl,j⟩:=tD M;simp only[qYe]at j;rw[L];exact Zcg13
variable(enc)in
def MapC(w:World)(mb N:Nat)(f:Int->Option α)(c:Nat):Prop:=∃D:DataW α,w.ownsMap prog 3 (decR enc) mb N D/\VQ D f/\Maps.size D=c
theorem MapC.g(h:MapC enc w mb N f c):MapG enc w mb N f:=by obtain⟨D,h1,h2,-⟩:=h;exact⟨D,h1,h2⟩
theorem MapC.keep(h:MapC enc w mb N f c)(hu:Upd S w w')(n:¬S mb):MapC enc w' mb N f c:=by
 obtain⟨q,⟨s,D,j,r⟩,E,F⟩:=h;exact⟨q,⟨s,D,(hu.block _ (zd j) n).trans j,r⟩,E,F⟩
theorem MapC.made(w:World):MapC enc (w.alloc (.map #[] 0)) w.heap.size 0 (fun _=>none) 0:=
 ⟨.map [],World.ownsMap_made w _ _ _,fun s=>⟨rfl,fun c h=>by cases h⟩,rfl⟩
theorem MapC.len(h:MapC enc w mb N f c)(n:prog.underlying t=some (.map 3 e))(j:TypeId):(Builtin.len_ #[t] j #[.map (some mb)]).run prog w=.ok (.int .i64 (c:Int)) w:=by
 obtain⟨q,h,-,rfl⟩:=h;exact h.len n j
theorem MapC.store{n:Nat}(h:MapC enc w mb N f n)(L:∀x y,enc x=enc y->x=y)(M:prog.underlying t=some (.map 3 e))(h1: -9223372036854775808<=x)(h2:x<9223372036854775808)(c:α)(O:N<maxLen):
  ∃w',(Instr.mapUpdate t (.map (some mb)) (.int .i64 x) (enc c)).run prog w=.ok () w'/\MapC enc w' mb (N+1) (fun j=>if j=x then some c else f j) (if(f x).isSome then n else n+1)/\Upd (fun P=>P=mb) w w'/\w'.heap.size=w.heap.size:=by
 obtain⟨Z,q,s,T⟩:=h;have E:=q.isMap;have F:∀y:Int,WideAt.IsKeyLit (.int .i64 y):=fun _=>trivial;obtain⟨w',U,V,H⟩:=q.store (ps:=[]) (d:=.held c) yC M O (qM h1 h2) (tC L c);refine⟨w',U,⟨_,V,fun j=>?_,?_⟩,yD H,yn H⟩
 .by_cases D:j=x
  .subst D;simp only[if_pos];exact⟨by rw[has_put_same E (F _)];rfl,fun a6 X z=>by obtain rfl:=qYd X;exact atKey_put_same E (F _) _ _⟩
  .have J:Lit.int .i64 j≠Lit.int .i64 x:=fun e=>D (Yz e);simp only[if_neg D,has_put_other J];exact⟨(s j).1,fun c Y z=>by rw[atKey_put_other J];exact(s j).2 c Y z⟩
 .rw [size_put (q.tidy yC),(s x).1,T]
theorem YA.lt(h:YA enc w mb r N f left cnt):mb<w.heap.size/\r<w.heap.size:=by
 obtain⟨j,n,h,-,-⟩:=h;exact⟨h.owns.lt,h.lt⟩
theorem YA.keep(h:YA enc w mb r N f left cnt)(hu:Upd S w w')(h1:¬S mb)(h2:¬S r):YA enc w' mb r N f left cnt:=by
 obtain⟨j,n⟩:=h.lt;obtain⟨q,s,⟨D,E,F,H,J,L,M,O,P,T,rest⟩,U,V⟩:=h;exact⟨q,s,⟨D,E,F,H,J,(hu.block mb j h1).trans L,M,O,P,(hu.block r n h2).trans T,rest⟩,U,V⟩
end
section
variable{α:Type}{enc:α->Value}{w:World}{ops:Array Oper}{rest:List Oper}{o:Oper}{a:Act}{Q:Exit->Act->World->Prop}{mb N:Nat}{f:Int->Option α}
theorem xQ(j:o.guard=none)(m:Operand)(t:TypeId)(E:o.op=Op.range t m)(F:prog.underlying t=some (.map 3 e))
  (H:a.eval m=.map (some mb)) (h:MapG enc w mb N f)
  (J:∀w',(∃cnt,cnt<=N/\YA enc w' mb w.heap.size N f (fun n=>(f n).isSome) cnt)->Upd (fun _=>False) w w'->w'.heap.size=w.heap.size+1->wpList prog ops Q rest (a.put o.dst (.pointer (some ⟨w.heap.size,0,none⟩))) w'):
  wpList prog ops Q (o::rest) a w:=by
 obtain⟨q,s,D⟩:=h;exact wpList_range_own w j m t E 3 e yC F (decR enc) mb N q H s (fun w' h1 h2 L=>J w' ⟨_,s.size_le,q,_,h1,D,fun n=>(D n).1⟩ (Upd.kC h2 (fun g j=>by cases j)) L)
theorem wj(q:o.guard=none)(s:Operand)(U:o.op=Op.next s false)
  (V:a.eval s=.pointer (some ⟨r,0,none⟩)) (h:YA enc w mb r N f left cnt)
  (X:(∀j,left j=false)->wpList prog ops Q rest (a.put o.dst (.tuple #[.bool false])) w)
  (Y:∀(x:Int) (c:α) (w':World),left x=true->f x=some c->(∃n,n<cnt/\YA enc w' mb r N f (fun z=>left z&&!decide (z=x)) n)->Upd (fun Z=>Z=r) w w'->w'.heap.size=w.heap.size->
   (Instr.entry (.pointer (some ⟨r,0,none⟩))).run prog w'=.ok (.tuple #[.int .i64 x,enc c]) w'->wpList prog ops Q rest (a.put o.dst (.tuple #[.bool true,.int .i64 x,enc c])) w'):
  wpList prog ops Q (o::rest) a w:=by
 obtain⟨J,L,h,D,E⟩:=h;refine wpList_next_ranges w q s U 3 yC (decR enc) (Value.int .i64) enc (fun aj kl a6=>?_) (fun v y F=>?_) mb r N J L cnt V h (fun _ a7=>X (fun j=>by rw[<-E,a7])) (fun x c kl y w' n a8 aa F M ab hlt ad ae O=>?_)
 .obtain ⟨x,hx,-⟩:=Maps.keyOf_int_inv underlying3 a6;exact⟨x,hx⟩
 .obtain ⟨e,af,-⟩:=tD F;exact⟨e,af⟩
 .obtain ⟨ak,ag,rfl,-⟩:=Maps.keyOf_int_inv underlying3 a8;cases ag;obtain⟨P,ah,rfl⟩:=tD F;have ai:f x=some P:=by
   have h1:=has_true_of_atKey M;rw[(D x).1]at h1;obtain⟨c2,T⟩:=Option.isSome_iff_exists.1 h1;have h2:=(D x).2 c2 T (.held c2);rw[M]at h2;rw[T,DataW.held.inj h2]
  rw[ah]at O⊢;refine Y x P w' (by rw[<-E];exact aa) ai ⟨n,hlt,J,_,ab,D,fun j=>?_⟩ (Upd.kC ad (fun g q _=>(qYd q).symm)) ae O;show(L (.int .i64 j)&&!(Lit.int .i64 j).sameKey (.int .i64 x))=_;rw[E];by_cases H:j=x
  .subst H;rw[WideAt.sameKey_self (show WideAt.IsKeyLit (.int .i64 j)from trivial),show(fun z=>left z&&!decide (z=j)) j=(left j&&!decide (j=j))from rfl,qYs rfl]
  .rw [sameKey_ne (fun e=>H (Yz e)),show(fun z=>left z&&!decide (z=x)) j=(left j&&!decide (j=x))from rfl,decide_eq_false H]
end
end
def zfc:List (Int×Int):=[(0,1099511627776),(0,1099511627776),(0,4096),(1,4096),(0,1048576),(0,1048576)]
theorem Jh:(prog.info? 187).map (·.size)=some 6:=kR
def zcQ(gs gt:Nat):Value:=.agg #[.int .i64 5,.slice (some ⟨gs,0,none⟩) 6 6,.func (.func 293) #[] #[],.func (.func 294) #[] #[.pointer (some ⟨gt,0,none⟩)],.func (.func 295) #[] #[]]
def zfd(w:World)(gs gt:Nat):Prop:=w.rangeAt gs 0 (ints [6,6,2,2,3,3])/\∃v,w.cell? ⟨gt,0,none⟩=some v/\Bnd w v zfc
theorem zam:(prog.info? 348).map (·.size)=some 5:=kR
theorem ZM(w:World):Calls prog 221 #[] w fun e w'=>∃gs j,e=.returned (zcQ gs j)/\zfd w' gs j/\Below w.heap.size w w':=by
 have E:=qqf;go_enter func221,ntmps221
 go_wp2_with fail
 refine(xG).mono ?_;rintro e w1 ⟨rfl,rfl⟩;go_wp2
 obtain⟨h1,h2,n,q,s,F,D⟩:=uU w (.cells #[.int .i64 5,.slice (some ⟨w.heap.size+1+1+1+1,0,none⟩) 6 6,.func (.func 293) #[] #[],.func (.func 294) #[] #[.pointer (some ⟨w.heap.size+1+1+1,0,none⟩)],.func (.func 295) #[] #[]] 348)
  (.cells (bndC zfc).toArray 207) (.cells #[.slice (some ⟨w.heap.size+1,0,none⟩) 6 6] 294) (.cells #[.func (.func 194) #[] #[.pointer (some ⟨w.heap.size+1+1,0,none⟩)]] 138) (.cells (ints [6,6,2,2,3,3]).toArray 3)
 refine qYq (zq rfl _ _ w.heap.size 0 [.int .i64 5,.slice (some ⟨w.heap.size+1+1+1+1,0,none⟩) 6 6,.func (.func 293) #[] #[],.func (.func 294) #[] #[.pointer (some ⟨w.heap.size+1+1+1,0,none⟩)],.func (.func 295) #[] #[]] _ rfl (zg h1) underlying348 rfl zam) rfl
  ⟨w.heap.size+1+1+1+1,w.heap.size+1+1+1,rfl,⟨zg s,_,za q 0,w.heap.size+1+1,w.heap.size+1,6,rfl,za n 0,zg h2⟩,Upd.below D⟩
def zfe:List (Int×Int):=[(0,1099511627776),(0,1099511627776),(0,4096),(1,4096),(1,8)]
theorem Ji:(prog.info? 192).map (·.size)=some 13:=kR
def secL(base n k:Nat):List Int:=(List.range n).map fun i=>if i<k then((base+i:Nat):Int)else 0
theorem We(base n k:Nat):(secL base n k).length=n:=by simp[secL]
theorem QU(base n:Nat):secL base n 0=List.replicate n 0:=by
 apply qyd
 .simp [secL]
 .intro i h1 h2;simp[secL]
theorem Jj(base n:Nat){k:Nat}(_hk:k<n):(secL base n k).set k ((base+k:Nat):Int)=secL base n (k+1):=by
 apply qyd
 .simp [secL]
 .intro i h1 h2;rw[qyx];simp only[secL,qyu,List.getElem_range];by_cases h:k=i
  .subst h;simp
  .rw [if_neg h];by_cases j:i<k
   .rw [if_pos j,if_pos oM]
   .rw [if_neg j,if_neg oM]
theorem Jk(base n:Nat)(a6:n<=1024)(a7:base<=4096)(w:World):
  Calls prog 202 #[.int .i64 (base:Int),.int .i64 (n:Int)] w fun e w'=>∃g,e=.returned (.slice (some ⟨g,0,none⟩) n n)/\w'.heap[g]?=some (.cells (ints (secL base n n)).toArray 3 (0,0))/\w.heap.size<=g/\Below w.heap.size w w':=by
 have V:=XD n oM w;obtain⟨w1,s⟩:=qqe (w.alloc (.cells (ints (List.replicate n 0)).toArray 3));have j:=zc w (.cells (ints (List.replicate n 0)).toArray 3) rfl;have L:Below w.heap.size w w1:=by rw[s];exact(qxl _ w).alloc (qXp _) _
 rw[<-s,<-QU base n]at j;have H:=Y3 s j L;obtain⟨G,M⟩:=qqe (w.heap.size);have D:=qqh M;clear j L s M;go_enter func202,ntmps202
 go_upto_region 2 with fail
 rw[<-H.o.1,<-D.o];clear V;go_wp2_with fail
 go_loopg[11] n (fun gk X wr=>∃k:Nat,k+gk=n/\X=.int .i64 (k:Int)/\wr.heap[G]?=some (.cells (ints (secL base n k)).toArray 3 (0,0))/\Upd (fun O=>O=G) w1 wr)
 case atStart=>exact⟨0,oM,rfl,by rw[D.o];exact H.o.2.1,uur _ _⟩
 case round=>
  obtain⟨k,a8,rfl,j,E⟩:=hrel;by_cases hlt:k<n
  .have Y:(k:Int)<(n:Int):=oM;have aa:(0:Int)<=(k:Int):=oM;have ab:=zf j k;have T:∃v,wr.cell? ⟨G,k,none⟩=some v:=by
    rw[za j,qxe (by rw[qXi,xr,We];omega)];exact⟨_,rfl⟩
   obtain⟨v0,T⟩:=T;have F:=zh j k (.int .i64 ((base+k:Nat):Int));rw[qXe,XE,Jj base n hlt]at F;have J:=E.trans (zi wr G k (.int .i64 ((base+k:Nat):Int)));have U:((base+k:Nat):Int)=(base:Int)+(k:Int):=oe;rw[U]at F J;have q:=Y2 F J;clear j E F J U;go_wp2_with fail
   go_roundg (gk-1)
   case measure=>omega
   case rel=>exact⟨k+1,oM,by go_num,q.o.1,q.o.2⟩
  .obtain rfl:k=n:=oM;have Y:¬((k:Int)<(k:Int)):=oM;have q:=Y2 j E;clear j E;go_wp2_with fail
   go_ret
   exact⟨G,rfl,q.o.1,Nat.le_of_eq D.o.symm,zj H.o.2.2 q.o.2 (qXp _) (fun O Z=>Nat.le_of_eq (by rw[Z,D.o]))⟩
open Go Go.RowKit Go.Shelf Tryz
attribute [local go_sem] qYb
end Go.Proofs.YtpejdgiccaijfaaGreatDoor
