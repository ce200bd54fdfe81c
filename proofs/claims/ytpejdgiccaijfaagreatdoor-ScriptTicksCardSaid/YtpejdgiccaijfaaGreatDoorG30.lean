/- lavabolaw14.ba -/
import Derived.Test.YtpejdgiccaijfaaGreatDoorG27
import Derived.Test.YtpejdgiccaijfaaGreatDoorG28
set_option maxRecDepth 100000
set_option maxHeartbeats 2000000
namespace Go.Proofs.YtpejdgiccaijfaaGreatDoor
open Go Go.RowKit Tryz
variable{w:World}{L:List Ent}{v:Value}
theorem yO{own own':Nat->Nat}{w':World}{b:Nat}{o:Obj}(d:Did own own' w w')(h:w.heap[b]?=some o)(j:own b=0):w'.heap[b]?=some o/\own' b=0:=
 ⟨(d.upd.block _ (zd h) (fun k=>k.1 j)).trans h,(d.old _ (zd h)).trans j⟩
theorem YW:(prog.info? 155).map (·.size)=some 4:=kR
theorem YX:(prog.info? 256).map (·.size)=some 2:=kR
theorem qi{j:Type}{enc:j->List Value}{m:Nat}(b:∀x,(enc x).length=m)(q:0<m):∀(L:List j) (k:Nat),(L.flatMap enc)[k]?=(L[k/m]?).bind (fun y=>(enc y)[k%m]?)
 |[],k=>oe
 |y::L,k=>by
  rw[qyf];by_cases h:k<m
  .rw [qyh (by rw[b];exact h),Nat.div_eq_of_lt h,qXt h];simp
  .rw [qyi (by rw[b];omega),b,qi b q L (k-m)];obtain⟨s,rfl⟩:∃s,k=s+m:=⟨k-m,oM⟩
   rw[Nat.add_sub_cancel,Nat.add_div_right _ q,Nat.add_mod_right];simp
theorem Sl.ent_set{e:TypeId}{g off n cap:Nat}(h:Sl w e 4 (.slice (some ⟨g,off,none⟩) n cap) n (L.flatMap entC)){i:Nat}(F:i<L.length)(x:Ent):
  Sl (w.setCells g (off+i*4) (entC x)) e 4 (.slice (some ⟨g,off,none⟩) n cap) n ((L.set i x).flatMap entC):=by
 have k:∀L:List Ent,(L.flatMap entC).length=L.length*4:=fun L=>by
  induction L with
  |nil=>rfl
  |cons y L G=>rw[qyf,qyz,G,qza];show 4+_=_;omega
 obtain⟨q,⟨h1,h2⟩|⟨T,U,V,H,h1,J,s,M,N,O⟩⟩:=h
 .cases h1
 cases h1;obtain⟨Q,h1,h2,S⟩:=zy (entC x) (off+i*4) w g H _ _ J;rw[k]at q;refine⟨by rw[k,qzf];exact q,.inr ⟨g,off,cap,Q,rfl,h1,s,M,by rw[h2];exact N,fun j u b=>?_⟩⟩;have W:j<L.length*4:=by
  have:=(qym.1 b).1;rw[k,qzf]at this;exact this
 rw[qi (enc:=entC) (m:=4) (fun _=>rfl) de]at b;have A:=O j;rw[qi (enc:=entC) (m:=4) (fun _=>rfl) de]at A;have X:n<=cap:=s;have D:(entC x).length=4:=rfl;rw[S];by_cases E:j/4=i
 .rw [if_pos ⟨oM,by rw[D];omega,oM⟩];rw[E,List.getElem?_set_self F]at b;rw[show off+j-(off+i*4)=j%4 by omega];exact b
 .rw [if_neg (fun h=>by rw[D]at h;omega)];rw[List.getElem?_set_ne (fun e=>E e.symm)]at b;exact A u b
theorem zbQ(x:Ent)(w:World):Calls prog 87 #[.agg (entC x).toArray] w fun e w'=>e=.returned (.bool (!x.d))/\Below w.heap.size w w':=by
 obtain⟨w1,b⟩:=qqe (w.alloc (.cells (entC x).toArray 155));have j:Below w.heap.size w w1:=by rw[b];exact(qxl _ w).alloc (qXp _) _
 have k:w1.cell? ⟨w.heap.size,2,none⟩=some (.bool x.d):=by rw[b,za (zc w _ rfl)];rfl
 have h:=qqh b;obtain⟨q,s,d,m⟩:=x;simp only[entC]at h⊢;simp only at k;clear b;go_enter func87,ntmps87
 go_upto_region 1 with fail
 rw[<-h.o];go_wp2
 go_ret
 exact⟨rfl,j⟩
def idxE(L:List Ent):Int:=match L.findIdx? (fun x=>!x.d)with|some i=>(i:Int)|none=> -1
abbrev zfz:Value:=.func (.func 87) #[] #[]
theorem zha(hv:Sl w 155 4 v L.length (L.flatMap entC)):
  Calls prog 138 #[v,zfz] w fun e w'=>e=.returned (.int .i64 (idxE L))/\Below w.heap.size w w':=by
 obtain⟨a6,a7,T⟩:=hv.rd.j6;have U:=hv.le;unfold maxLen at U;subst T;have V:=qqh hv;obtain⟨R,E⟩:=qqe (idxE L);rw[<-E];have G:=qqh E;clear hv E;go_enter func138,ntmps138
 go_wp2_with fail
 go_loopg[8] L.length (fun gk W wr=>∃i:Nat,i+gk=L.length/\W=.int .i64 (i:Int)/\(∀j (h:j<L.length),j<i->L[j].d=true)/\Below w.heap.size w wr)
 case atStart=>exact⟨0,oM,rfl,fun j _ h=>absurd h (Nat.not_lt_zero _),qxl _ _⟩
 case round=>
  obtain⟨i,a8,rfl,s,q⟩:=hrel;by_cases hlt:i<L.length
  .obtain ⟨aa,ab,ca,X,Y,H⟩:=(V.o.keep (uuo (S:=fun _=>False) q) (fun _ _ h=>h)).rd.at oM;cases X;have A:=xP (enc:=entC) (m:=4) (fun _=>rfl) H hlt;have F:=zbQ L[i] wr;obtain⟨x,hx⟩:=qqe (L[i]);rw[<-hx]at A F;have J:(prog.info? 155).map (·.size)=some (entC x).length:=YW;have Z:=underlying155;have q1:(i:Int)<(L.length:Int):=oM;have ad:(0:Int)<=(i:Int):=oM;have b:=Y5 s q hx F hlt;clear s q F Y H;obtain⟨ae,M⟩:=qqe (entC x);have D:=b.o.2.2.2.1;rw[<-M]at A J D;replace D:=qqh D;clear M;go_wp2_with (first
    |(refine qYz rfl _ _ rfl _ _ rfl _ _ A Z rfl J ?_)
    |fail)
   refine D.o.mono ?_;rintro e w1 ⟨rfl,N⟩;have O:=qqh (b.o.2.1.trans (N.mono b.o.2.1.size));clear N A;cases Q:x.d with
   |false=>
    rw[Bool.not_false];go_wp2
    go_ret
    refine⟨?_,O.out⟩;rw[G.o];have:L.findIdx? (fun x=>!x.d)=some i:=by
     rw[List.findIdx?_eq_some_iff_getElem];exact⟨b.o.2.2.2.2,by rw[<-b.o.2.2.1,Q];rfl,fun j k=>by rw[b.o.1 j (by have:=b.o.2.2.2.2;omega) k];simp⟩
    unfold idxE;rw[this];rfl
   |true=>
    rw[Bool.not_true];go_wp2_with fail
    go_roundg (gk-1)
    case measure=>omega
    case rel=>
     refine⟨i+1,oM,by go_num,fun j k af=>?_,O.out⟩;by_cases e:j=i
     .subst e;rw[<-b.o.2.2.1];exact Q
     .exact b.o.1 j k oM
  .obtain rfl:i=L.length:=oM;have q1:¬((L.length:Int)<(L.length:Int)):=oM;have b:=Y2 s q;clear s q hlt;go_wp2
   go_ret
   refine⟨?_,b.o.2⟩;rw[G.o];have:L.findIdx? (fun x=>!x.d)=none:=by
    rw[List.findIdx?_eq_none_iff];intro x hx;obtain⟨j,k,rfl⟩:=qyw hx;rw[b.o.1 j k k];rfl
   unfold idxE;rw[this];rfl
theorem zbi:(prog.info? 155).map (fun i=>(i.zero.map (fun z=>(z.cells.size,z.cells.all (·.oneCell'))),i.size))=some (some (4,true),4):=kR
theorem YY{g off n cap:Nat}{b:Array Value}(k:w.heap[g]?=some (.cells b 155 (0,0)))(U:off+n*4<=b.size)(V:0<n):
  ∃w',(∀s,(Builtin.clear_ #[146] s #[.slice (some ⟨g,off,none⟩) n cap]).run prog w=.ok (.tuple #[]) w')/\Upd (fun q=>q=g) w w'/\
   ∃j,w'.heap[g]?=some (.cells j 155 (0,0))/\j.size=b.size/\∀i,i<off->j[i]?=b[i]?:=by
 obtain⟨i,A,h⟩:=qYc.1 zbi;simp only[qYe]at h;obtain⟨z,J,D⟩:=qYc.1 h.1;simp only[qYe]at D;obtain⟨M,N⟩:=D;have O:(Builtin.zeroCells z.cells n).toList.length=n*4:=by simp[Builtin.zeroCells,M]
 have h1:∀v∈(Builtin.zeroCells z.cells n).toList,v.oneCell'=true:=by
  intro v E;simp only[Builtin.zeroCells,Array.toList_map,qzr]at E;obtain⟨F,W,rfl⟩:=E;have:F%z.cells.size<z.cells.size:=qXu _ oM;rw[getElem!_pos z.cells (F%z.cells.size) this];exact Array.all_eq_true.1 N _ this
 have G:=run_storeCells_cells (P:=prog) g off (Builtin.zeroCells z.cells n).toList 0 w
  (fun q H=>by rw[O]at H;rw[za k,qXn,qxe oM];rfl) (fun q H=>zf k _) h1
 simp only[qXn]at G;obtain⟨j,h2,Q,S⟩:=zy (Builtin.zeroCells z.cells n).toList off w g b _ _ k;have T:∀w,(zeroValue 155).run prog w=.ok z w:=fun w=>by simp[zeroValue,typeInfo,A,J]
 refine⟨_,fun s=>?_,ym _ w g off _ rfl,j,h2,Q,fun i A=>by rw[S,if_neg oM]⟩;obtain⟨m,rfl⟩:∃m,n=m+1:=⟨n-1,oM⟩
 simp[Builtin.clear_,run_underlying underlying146,T,G]
def zdA(w:World)(v:Value)(M:List Ent)(e:Ending)(w':World):Prop:=∃v',e=.returned v'/\Sl w' 155 4 v' M.length (M.flatMap entC)/\v'.ownBlock=v.ownBlock/\Upd (fun k=>v.ownBlock=some k) w w'
def dirE(L:List Ent)(j:Nat):List Ent:=(L.take j).filter (fun x=>x.d)
theorem uh{j:Nat}(h:j<L.length):dirE L (j+1)=dirE L j++(if L[j].d=true then[L[j]]else[]):=by
 unfold dirE;rw[qXl h,List.filter_append]
 congr 1
 by_cases b:L[j].d=true
 .rw [if_pos b];simp[b]
 .rw [if_neg b];simp[b]
theorem sU{L:List Ent}:∀i,i<=L.length->(∀b (h:b<L.length),b<i->L[b].d=true)->dirE L i=L.take i
 |0,_,_=>rfl
 |i+1,k,h=>by
  rw[uh oM,sU i oM (fun b j q=>h b j oM),if_pos (h i oM oM),qXl oM]
theorem zhb(hv:Sl w 155 4 v L.length (L.flatMap entC)):
  Calls prog 86 #[v,zfz] w (zdA w v (dirE L L.length)):=by
 have aa:=qqh (zha hv);by_cases W:∀b (h:b<L.length),L[b].d=true
 .have X:idxE L= -1:=by
   have:L.findIdx? (fun x=>!x.d)=none:=by
    rw[List.findIdx?_eq_none_iff];intro x hx;obtain⟨b,H,rfl⟩:=qyw hx;rw[W b H];rfl
   unfold idxE;rw[this]
  rw[X]at aa;have ar:dirE L L.length=L:=by rw[sU _ (qXp _) (fun b H _=>W b H),List.take_length]
  rw[ar];have Q:=qqh hv;clear hv W X ar;go_enter func86,ntmps86
  go_wp2_with fail
  refine aa.o.mono ?_;rintro e w' ⟨rfl,Y⟩;go_wp2
  go_ret
  exact⟨v,rfl,Q.o.keep (uuo (S:=fun _=>False) Y) (fun _ _ h=>h),rfl,(uuo Y)⟩
 .obtain ⟨s,b4,au,av,X⟩:∃(s:Nat) (h:s<L.length),L[s].d=false/\(∀b (h:b<L.length),b<s->L[b].d=true)/\idxE L=(s:Int):=by
   cases E:L.findIdx? (fun x=>!x.d)with
   |none=>
    rw[List.findIdx?_eq_none_iff]at E;exact absurd (fun b h=>by simpa using E L[b] (qyv h)) W
   |some i=>
    have b5:=E;rw[List.findIdx?_eq_some_iff_getElem]at E;obtain⟨a1,a2,a3⟩:=E;refine⟨i,a1,by simpa using a2,fun b H b6=>by simpa using a3 b b6,?_⟩;unfold idxE;rw[b5]
  rw[X]at aa;have b7:=hv.le;obtain⟨aw,⟨-,h2⟩|⟨g,F,N,b8,rfl,ax,ay,az,aA,aB⟩⟩:=hv
  .omega
  have Q:=Y4 (show Sl w 155 4 (.slice (some ⟨g,F,none⟩) L.length N) L.length (L.flatMap entC)from⟨aw,.inr ⟨g,F,N,b8,rfl,ax,ay,az,aA,aB⟩⟩) b4 au av;unfold maxLen at b7 az;have bx:=ay;clear W X au av aw ax aA aB;go_enter func86,ntmps86
  go_wp2_with fail
  refine aa.o.mono ?_;rintro e w1 ⟨rfl,Y⟩;have aC:=qqh (uuo (S:=fun _=>False) Y);clear Y;go_wp2_with fail
  go_loopg[5,6] (L.length-(s+1)) (fun gk b9 ba wr=>∃(b:Nat) (A:List Ent),b+gk=L.length/\s<b/\ba=.int .i64 (b:Int)/\b9=.int .i64 ((dirE L b).length:Int)/\(dirE L b).length<b/\A.length=L.length/\A.take (dirE L b).length=dirE L b/\(∀G,b<=G->A[G]?=L[G]?)/\Sl wr 155 4 (.slice (some ⟨g,F,none⟩) L.length N) L.length (A.flatMap entC)/\Upd (fun j=>j=g) w wr)
  case atStart=>
   have aD:dirE L (s+1)=L.take s:=by rw[uh Q.o.2.1,sU s oM Q.o.2.2.2,if_neg (by rw[Q.o.2.2.1];decide),qxx]
   have aE:(dirE L (s+1)).length=s:=by rw[aD,qzg];omega
   exact⟨s+1,L,oM,oM,by go_num,by rw[aE],oM,rfl,by rw[aE,aD],fun _ _=>rfl,Q.o.1.keep aC.o (fun _ _ h=>h),aC.o.mono fE⟩
  case round=>
   obtain⟨b,A,H,bz,rfl,rfl,aF,aG,J,Z,a6,ab⟩:=hrel;by_cases hlt:b<L.length
   .have aH:b<A.length:=oM;have aI:A[b]=L[b]:=by
     have:=Z b (qXp _);rw[qyk aH,qyk hlt]at this;exact qYd this
    obtain⟨bA,bB,ca,bb,bc,aJ⟩:=a6.rd.at oM;cases bb;have ad:=xP (enc:=entC) (m:=4) (fun _=>rfl) aJ aH;obtain⟨x,hx⟩:=qqe (L[b]);rw[aI,<-hx]at ad;obtain⟨D,T⟩:=qqe (entC x);have aK:∀v∈D,v.oneCell'=true:=by rw[T];intro v hv;simp[entC]at hv;rcases hv with rfl|rfl|rfl|rfl<;>rfl
    have ai:D.length=4:=by rw[T];rfl
    have a7:(prog.info? 155).map (·.size)=some D.length:=by rw[ai];exact YW
    rw[<-T]at ad;obtain⟨bd,ae⟩:=qqe (wr.alloc (.cells D.toArray 155));have aL:=qqu ae;obtain⟨G,E⟩:=qqe (wr.heap.size);have af:=zg (zc wr (.cells D.toArray 155) rfl);rw[<-ae,<-E]at af;have aM:g≠G:=fun e=>by have:=a6.lt (g:=g) rfl;omega
    have aj:=zbQ x bd;rw[<-T]at aj;have q1:(b:Int)<(L.length:Int):=oM;have bC:(0:Int)<=(b:Int):=oM;obtain⟨j,q⟩:=qqe ((dirE L b).length);rw[<-q]at aF J⊢;have k:=Y11 aG J Z a6 ab aL aj hx T q aM;have aN:=Y2 ae E;have ak:=underlying155;clear aG J Z a6 ab aL aj bc aJ T q ae E aI hx aM;go_wp2_with (first
     |(refine qYz rfl _ _ rfl _ _ rfl _ _ ad ak rfl a7 ?_)
     |(refine zk rfl _ _ _ rfl _ _ D rfl rfl (by rw[ai];rfl) a7 aK ?_;refine Stop.i ?_)
     |fail)
    rw[<-aN.o.1,<-aN.o.2];unfold Stop;go_wp2_with (first
     |(refine qYz rfl _ _ rfl _ _ rfl _ _ af ak rfl a7 ?_)
     |fail)
    refine k.o.2.2.2.2.2.2.1.mono ?_;rintro e U ⟨rfl,aO⟩;have O:=uuo (S:=fun _=>False) aO;have aP:=O.range af id;have aQ:=(k.o.2.2.2.1.keep k.o.2.2.2.2.2.1 (fun _ _ h=>h)).keep O (fun _ _ h=>h);have aR:=k.o.2.2.2.2.1.trans (((k.o.2.2.2.2.2.1).trans O).mono fE);have M:=Y2 aQ aR;clear aQ aR O aO ad af;cases aS:x.d with
    |false=>
     rw[Bool.not_false];go_wp2_with fail
     go_roundg (gk-1)
     case measure=>omega
     case rel=>
      have V:dirE L (b+1)=dirE L b:=by rw[uh hlt,<-k.o.2.2.2.2.2.2.2.1,if_neg (by rw[aS];decide),qxx]
      have q:=k.o.2.2.2.2.2.2.2.2.2.1;exact⟨b+1,A,oM,oM,by go_num,by rw[V,q],by rw[V,<-q];omega,k.o.1,by rw[V,<-q];exact k.o.2.1,fun G E=>k.o.2.2.1 G oM,M.o.1,M.o.2⟩
    |true=>
     rw[Bool.not_true];have aT:U.there g (F+j*4) D.toArray.size:=fun i aU=>by
      obtain⟨-,⟨h1,-⟩|⟨be,bf,bg,bh,h1,a8,bi,aV,am,ag⟩⟩:=M.o.1
      .cases h1
      cases h1;have aU:i<4:=by simpa[ai]using aU
      rw[za a8,zf a8];exact⟨by rw[qxe oM];rfl,rfl⟩
     have bj:(0:Int)<=(j:Int):=oM;have bn:(j:Int)<(L.length:Int):=oM;have bp:(prog.info? 155).map (·.size)=some D.toArray.size:=by rw[qXi];exact a7
     have aW:j<A.length:=by have:=k.o.1;omega
     have aX:=k.o.2.2.2.2.2.2.2.2.1;obtain⟨bq,ah⟩:=qqe (U.setCells g (F+j*4) D);have an:=Sl.ent_set M.o.1 aW x;rw[<-aX,<-ah]at an;have aY:Upd (fun j=>j=g) w bq:=by rw[ah];exact M.o.2.trans (zn U g (F+j*4) D)
     have aZ:=Y2 an aY;have br:=qqh ah;clear an aY ah aX;go_wp2_with (first
      |(refine qYz rfl _ _ rfl _ _ rfl _ _ aP ak rfl a7 ?_)
      |(refine qZb rfl _ _ _ rfl _ _ D.toArray rfl rfl aT bp (qYo aK) ?_;refine Stop.i ?_)
      |fail)
     unfold Stop;show wpList _ _ _ _ _ (U.setCells g (F+j*4) D);rw[<-br.o];clear aP aT;go_wp2_with fail
     go_roundg (gk-1)
     case measure=>omega
     case rel=>
      have V:dirE L (b+1)=dirE L b++[x]:=by rw[uh hlt,<-k.o.2.2.2.2.2.2.2.1,if_pos aS]
      have q:=k.o.2.2.2.2.2.2.2.2.2.1;have ao:(dirE L (b+1)).length=j+1:=by rw[V,qyz,<-q];rfl
      refine⟨b+1,A.set j x,oM,oM,by go_num,by rw[ao];go_num,by rw[ao];omega,by rw[qzf];exact k.o.1,?_,fun G E=>?_,aZ.o.1,aZ.o.2⟩
      .rw [ao,qXl (by rw[qzf];exact aW),List.getElem_set_self,List.take_set_of_le (qXp _),k.o.2.1,V]
      .rw [List.getElem?_set_ne oM];exact k.o.2.2.1 G oM
   .obtain rfl:b=L.length:=oM;obtain⟨j,q⟩:=qqe ((dirE L L.length).length);rw[<-q]at aF J⊢;obtain⟨b0,⟨h1,-⟩|⟨be,bf,bg,bh,h1,a8,bi,aV,am,ag⟩⟩:=a6
    .cases h1
    cases h1;obtain⟨U,bD,O,bs,b1,b2,ap⟩:=YY (off:=F+j*4) (n:=L.length-j) (cap:=N-j) a8 oM oM;have b3:Sl U 155 4 (.slice (some ⟨g,F,none⟩) (dirE L L.length).length N) (dirE L L.length).length ((dirE L L.length).flatMap entC):=by
     have aq:((dirE L L.length).flatMap entC).length=(dirE L L.length).length*4:=by
      rw[<-J];clear J Z b0 ag ap
      induction (List.take j A)with
      |nil=>rfl
      |cons y bE bt=>rw[qyf,qyz,bt,qza];show 4+_=_;omega
     refine⟨aq,.inr ⟨g,F,N,bs,rfl,b1,oM,aV,by rw[b2];exact am,fun b u H=>?_⟩⟩;have bu:b<j*4:=by
      have:=(qym.1 H).1;rw[aq,<-q]at this;exact this
     rw[ap _ oM];refine ag b u ?_;rw[<-qXj j A,qye,J,qyh (by rw[aq,<-q];exact bu)];exact H
    have M:=Y2 b3 (ab.trans O);have bv:=qqh q;have q1:¬((L.length:Int)<(L.length:Int)):=oM;have bj:(0:Int)<=(j:Int):=oM;have bn:(j:Int)<=(L.length:Int):=oM;have bF:(j:Int)<=(N:Int):=oM;clear b3 ab O q b0 J Z ag ap a8 b1 b2 am;go_wp2
    go_ret
    refine⟨_,rfl,?_,rfl,M.o.2.mono (fun b _ e=>by simp[Value.ownBlock,e])⟩;rw[bv.o];exact M.o.1
section
variable{own own':Nat->Nat}{w w':World}{c:Nat}{n:CaN}{p:CaP}{a:CaS}
theorem RG(h:CaAt own w c n p a)(hv:Sl w 155 4 v L.length (L.flatMap entC))(bJ:∀g,v.ownBlock=some g->own g=0)(bK:a.Tie n none)
  (bL:∀x∈L,x.b<n.bl/\x.s<n.sl/\x.m<=4294967295) (aT:(L.map (·.s)).Nodup) (bM:(L.map (·.b)).Nodup) (bN:∀x∈L,a.st.getD x.s 0=0/\plc a.ps x.b=(-1,false)) (aI:a.iN+L.length<maxLen/\a.kN+L.length<maxLen/\a.mN+L.length<maxLen):
  Calls prog 144 #[ptr c,v] w (zt own w c n p (({a with G:=List.replicate n.sl VL}:CaS).ldTo n L) (.int .i64 0)):=by
 have dj:=h.ok.s2;obtain⟨s0,cp,bO,cq,cr,ct,cu⟩:=h.sup;have aw:=qqh h;obtain⟨a1,ay⟩:∃a1:CaS,a1={a with G:=List.replicate n.sl VL}:=⟨_,rfl⟩
 have bP:a1.Tie n none:=by rw[ay];exact bK
 have bQ:∀x∈L,a1.st.getD x.s 0=0/\plc a1.ps x.b=(-1,false):=by rw[ay];exact bN
 have bR:a1.iN+L.length<maxLen/\a1.kN+L.length<maxLen/\a1.mN+L.length<maxLen:=by rw[ay];exact aI
 have X:=Y8 hv bJ bP bL aT bM bQ bR;rw[<-ay];have cv:=qqh ay;obtain⟨dk,dm,cx⟩:=hv.rd.j6;have cy:=hv.le;unfold maxLen at cy;subst cx;clear h s0 cp cq cr ct cu hv bJ bK bL aT bM bN aI bP bQ bR ay;go_enter func144,ntmps144
 go_wp2_with fail
 go_loopw[5,15] (fun _ b6 wr=>∃ah aJ,ah<=n.sl/\b6=.int .i64 (ah:Int)/\CaAt aJ wr c n p {a with G:=qx a.G ah}/\Did own aJ w wr) (fun _ b6 _=>n.sl-(intOf b6).toNat)
 case atStart=>exact⟨0,own,qXz _,rfl,by rw[VM];exact aw.o,Did.refl aw.o.far⟩
 case round=>
  obtain⟨ah,aJ,dn,rfl,ai,aU⟩:=hrel;by_cases hlt:ah<n.sl
  .obtain ⟨cz,cA,aK,aj,a8,ap,aV,aL,aM⟩:=ai.cells;have cB:=qqh (Yv ai ah hlt (-1) (.inl rfl));have aW:=qqh aU;clear ai aU cz cA aK aj a8 ap aL aM bO;go_wp2_with fail
   refine cB.o.mono ?_;rintro e w1 ⟨rfl,cC,bS,bT⟩;have W:=Y2 bS bT;clear bS bT;go_wp2
   go_roundw
   case rel=>
    refine⟨ah+1,cC,oM,by go_num,?_,aW.o.trans W.o.2⟩;have:=W.o.1;simp only[VN (show ah<a.G.length by rw[aw.o.Gl];exact hlt)]at this;exact this
   case measure=>simp[intOf];omega
  .obtain rfl:ah=n.sl:=oM;have bU:CaAt aJ wr c n p a1:=by
    rw[<-aw.o.Gl,QP,aw.o.Gl,<-cv.o]at ai;exact ai
   have aW:=Y2 bU aU;clear ai bU aU bO;go_wp2_with fail
   obtain⟨dp,dq⟩:∃x,x=wr:=⟨_,rfl⟩
   go_loopg[27] L.length (fun gk cD bV=>∃i:Nat,i+gk=L.length/\cD=.int .i64 (i:Int)/\∃ak,CaAt ak bV c n p (a1.ldTo n (L.take i))/\Did own ak w bV)
   case atStart=>exact⟨0,oM,rfl,aJ,aW.o.1,aW.o.2⟩
   case round=>
    obtain⟨i,bW,rfl,ak,aq,aN⟩:=hrel;by_cases hlt:i<L.length
    .obtain ⟨x,hx⟩:∃x,x=L[i]:=⟨_,rfl⟩
     have b7:x∈L:=by rw[hx];exact qyv hlt
     obtain⟨aX,aY,b8⟩:=X.o.2.2.2.1 x b7;have bX:=qXb.1 X.o.2.2.2.2.1;have bY:=qXb.1 X.o.2.2.2.2.2.1;have b9:∀y∈L.take i,y.s≠x.s/\y.b≠x.b:=fun y hy=>by
      obtain⟨a7,hj,rfl⟩:=qyw hy;rw[qzg]at hj;rw[List.getElem_take,hx];exact⟨qXa.1 bX a7 i oM hlt oM,qXa.1 bY a7 i oM hlt oM⟩
     have az:=CaS.ldTo_ok (n:=n) (L.take i) X.o.2.2.1 (fun y hy=>⟨(X.o.2.2.2.1 y (List.mem_of_mem_take hy)).1,(X.o.2.2.2.1 y (List.mem_of_mem_take hy)).2.1⟩) (X.o.2.2.2.2.1.sublist ((List.take_sublist i L).map _)) (X.o.2.2.2.2.2.1.sublist ((List.take_sublist i L).map _)) (fun y hy=>X.o.2.2.2.2.2.2.1 y (List.mem_of_mem_take hy));obtain⟨bZ,c0⟩:=X.o.2.2.2.2.2.2.1 x b7;have ba:a1.ldTo n (L.take (i+1))=(a1.ldTo n (L.take i)).ldE n x:=by rw[qXl hlt,<-hx];unfold CaS.ldTo;rw[List.foldl_append];rfl
     obtain⟨ad,c3⟩:=qqe (a1.ldTo n (L.take i));rw[<-c3]at aq az ba;have bb:ad.st.getD x.s 0=0:=(az.slt _ (fun y hy=>(b9 y hy).1)).trans bZ;have bc:plc ad.ps x.b=(-1,false):=((az.blk _ (fun y hy=>(b9 y hy).2)).1).trans c0;obtain⟨bd,be,-,-,-⟩:=CaS.Tie.ldE az.tie x aX aY bb bc;obtain⟨bf,bg,bh⟩:=az.num;rw[qzg,Nat.min_eq_left oM]at bf bg bh;have aI:=X.o.2.2.2.2.2.2.2;have c4:=X.o.1.keep aN.upd (fun g cE aT=>aT.1 (X.o.2.1 g cE));obtain⟨cF,cG,ca,cH,cI,ai⟩:=c4.rd.at oM;cases cH;have aA:=xP (enc:=entC) (m:=4) (fun _=>rfl) ai hlt;rw[<-hx]at aA;obtain⟨H,D,ae,aB⟩:=x;replace aA:wr.rangeAt cF (cG+i*4) [.int .i64 (H:Int),.int .i64 (D:Int),.bool ae,.int .i64 (aB:Int)]:=aA;simp only at aX aY b8 bd be bb bc;obtain⟨am,ar⟩:∃am:List Value,am=[.int .i64 (H:Int),.int .i64 (D:Int),.bool ae,.int .i64 (aB:Int)]:=⟨_,rfl⟩
     have cJ:∀v∈am,v.oneCell'=true:=by rw[ar];intro v hv;simp at hv;rcases hv with rfl|rfl|rfl|rfl<;>rfl
     have c5:am.length=4:=by rw[ar];rfl
     have c6:(prog.info? 155).map (·.size)=some am.length:=by rw[c5];exact YW
     rw[<-ar]at aA;obtain⟨m,bi⟩:=qqe (wr.heap.size);obtain⟨bj,aZ⟩:=qqe (wr.alloc (.cells am.toArray 155));have bn:=qqu aZ;have c7:bj.heap[m]?=some (.cells am.toArray 155 (0,0)):=by rw[aZ,bi];exact zc wr _ rfl
     have c8:ak m=0:=aq.far m oM;have k:=(uur (fun _=>False) bj).drew;have h2:=aq.new (bn.trans k);have aK:=aN.trans (aq.ko (bn.trans k));have aC:=k.j4 c7;obtain⟨an,bp⟩:=qqe (bj.drew);rw[<-bp]at h2 aK aC;have b0:∀b,Upd (fun _=>False) an b->Calls prog 213 #[ptr p.ix,.int .i64 (H:Int),zO (D:Int) ae] b (zt ak b c n p {ad with iN:=ad.iN+1,ps:=xy ad.ps n.sl (H:Int) (D:Int) ae} (.tuple #[zO (-1) false,.int .i64 0])):=fun b cK=>by
      have:=Jo (h2.new cK) (H:Int) (D:Int) ae oM;rw[bd,be]at this;exact this
     have q1:(i:Int)<(L.length:Int):=oM;have dr:(0:Int)<=(i:Int):=oM;obtain⟨-,-,-,-,c9,-,-,-,-⟩:=h2.cells;have z0:an.cell? ⟨m,0,none⟩=some (.int .i64 (H:Int)):=by rw[za aC,ar];rfl
     have cb:an.cell? ⟨m,1,none⟩=some (.int .i64 (D:Int)):=by rw[za aC,ar];rfl
     have cc:an.cell? ⟨m,2,none⟩=some (.bool ae):=by rw[za aC,ar];rfl
     have b1:=Y3 aZ bi bp;have q:=Y6 h2 aK aC c8 ar b0;have W:=Y8 ba aX aY b8 bf bg bh aI;have cL:=underlying155;have cM:=underlying256;clear aq aN hlt hx b7 aX aY b8 bX bY b9 az bZ c0 ba c3 bb bc bd be bf bg bh aI c4 cI ai ar bi aZ bn c7 c8 k h2 aK aC b0 bp;go_wp2_with (first
      |(refine qYz rfl _ _ rfl _ _ rfl _ _ aA cL rfl c6 ?_)
      |(refine zk rfl _ _ _ rfl _ _ am rfl rfl (by rw[c5];rfl) c6 cJ ?_;refine Stop.i ?_)
      |fail)
     rw[<-b1.o.1,<-b1.o.2.1];unfold Stop;go_upto_region 9 with fail
     go_cut [8,9] (fun cN cO b3=>∃A b4,cN=.pointer (some ⟨A,0,none⟩)/\cO=.int .i64 0/\b3.rangeAt A 0 [.int .i64 (-1),.bool false]/\CaAt b4 b3 c n p {ad with iN:=ad.iN+1,ps:=xy ad.ps n.sl (H:Int) (D:Int) ae}/\Did own b4 w b3/\b3.heap[m]?=some (.cells am.toArray 155 (0,0))/\b4 m=0/\b4 A=0)
     case first=>
      refine qZc (S:=fun b=>b.cell? ⟨c,18,none⟩=some (ptr p.ix)/\b.cell? ⟨m,0,none⟩=some (.int .i64 (H:Int))/\b.cell? ⟨m,1,none⟩=some (.int .i64 (D:Int))/\b.cell? ⟨m,2,none⟩=some (.bool ae)) kR (by rw[<-b1.o.2.2];exact⟨c9,z0,cb,cc⟩) (fun F=>?_);rw[<-b1.o.2.2]at F⊢;refine Wl.i [0,1,2,3,4,5,6,7,8,9,10] ?_;iterate 11 refine Wl.t F ?_
      refine Wl.o ?_;refine qYx (rs:=[11,15]) kR oe ?_;refine qxb rfl (fun K j=>?_) (qxb rfl (fun K j=>?_) qxc)
      .go_simp
       refine(q.o.2.2.2.2.2 _ (uur _ _)).mono ?_;rintro e T ⟨rfl,aD,af,aj⟩;have Y:=yO aj q.o.2.2.1 q.o.2.2.2.1;obtain⟨-,-,-,-,bq,-,-,-,-⟩:=af.cells;have M:T.cell? ⟨c,18,none⟩=some (ptr p.ix)/\T.cell? ⟨m,0,none⟩=some (.int .i64 (H:Int))/\T.cell? ⟨m,1,none⟩=some (.int .i64 (D:Int))/\T.cell? ⟨m,2,none⟩=some (.bool ae):=by
        rw[za Y.1,za Y.1,za Y.1,q.o.2.2.2.2.1];exact⟨bq,rfl,rfl,rfl⟩
       refine j.o _ _ M (fun _=>?_);clear j K;refine Wl.i [12,13,14] ?_;iterate 3 refine Wl.t M ?_
       refine Wl.o ?_;refine Wl.r 15 (fun K j=>?_);go_simp
       obtain⟨A,ax⟩:=qqe (T.heap.size);obtain⟨au,av⟩:=qqe (T.alloc (.cells #[.int .i64 0,.bool false] 256));rw[<-av,<-ax];have J:=qqu av;have b5:au.heap[A]?=some (.cells #[.int .i64 0,.bool false] 256 (0,0)):=by rw[av,ax];exact zc T _ rfl
       have cd:aD A=0:=af.far A oM;have ce:=J.j4 Y.1;refine j.o _ _ ⟨J.j3 M.1 id,J.j3 M.2.1 id,J.j3 M.2.2.1 id,J.j3 M.2.2.2 id⟩ (fun _=>?_);clear j K;refine Wl.r 16 (fun K j=>?_);rw[if_pos oE];refine qZd _ _ _ rfl _ _ #[.int .i64 (-1),.bool false] rfl rfl (fun a7 hj=>by rw[za b5,zf b5,qXy];exact⟨by rw[qxe oC];rfl,rfl⟩) YX (qYo jz) ?_;simp only[Act.put,qXe];have aE:(au.setCells A 0 [.int .i64 (-1),.bool false]).rangeAt A 0 [.int .i64 (-1),.bool false]:=qYl _ _ _ _ (fun a7 hj=>by rw[za b5,zf b5,qXy];exact⟨by rw[qxe oC];rfl,rfl⟩);have N:=zn au A 0 [.int .i64 (-1),.bool false];have cP:=af.new J;have a8:=aj.trans (af.ko J);have ao:A≠m:=fun e=>by have:=zd Y.1;omega
       have br:c≠A:=fun e=>by have:=af.clt;omega
       have cQ:=af.nib.lt;have cR:=af.tur.lt;have aF:=cP.ky N (fun a7 e=>by subst e;exact⟨cd,oM,oM⟩);have ap:Did ak aD an (au.setCells A 0 [.int .i64 (-1),.bool false]):=⟨a8.upd.new N (fun i bW e=>by have:=aj.upd.size;omega),a8.old,a8.new,fun a7 hj=>a8.far a7 (by have:=N.size;omega)⟩
       have aG:=(N.block m (zd ce) (fun e=>ao e.symm)).trans ce;refine j.o _ _ ⟨N.j3 (J.j3 M.1 id) br,N.j3 (J.j3 M.2.1 id) (fun e=>ao e.symm),N.j3 (J.j3 M.2.2.1 id) (fun e=>ao e.symm),N.j3 (J.j3 M.2.2.2 id) (fun e=>ao e.symm)⟩ (fun bs=>?_);clear j K;generalize au.setCells A 0 [.int .i64 (-1),.bool false]=cT at*;refine Wl.i [17] ?_;iterate 1 refine Wl.t bs ?_
       refine Wl.o ?_;refine Wl.d ?_;go_wp2_with fail
       go_meet
       case rel=>exact⟨A,aD,rfl,rfl,aE,aF,q.o.2.1.trans ap,aG,Y.2,cd⟩
      .go_simp
       obtain⟨A,ax⟩:=qqe (an.heap.size);obtain⟨au,av⟩:=qqe (an.alloc (.cells #[.int .i64 0,.bool false] 256));rw[<-av,<-ax];have J:=qqu av;have cU:au.heap[A]?=some (.cells #[.int .i64 0,.bool false] 256 (0,0)):=by rw[av,ax];exact zc an _ rfl
       have cV:ak A=0:=q.o.1.far A oM;have cW:=J.j4 q.o.2.2.1;have ao:A≠m:=fun e=>by have:=zd q.o.2.2.1;omega
       have br:c≠A:=fun e=>by have:=q.o.1.clt;omega
       have cQ:=q.o.1.nib.lt;have cR:=q.o.1.tur.lt;have b0:=q.o.2.2.2.2.2 au J;have cX:=q.o.1.ko J;refine j.o _ _ ⟨J.j3 F.1 id,J.j3 F.2.1 id,J.j3 F.2.2.1 id,J.j3 F.2.2.2 id⟩ (fun _=>?_);clear j K;have cf:=qqh ax;clear av ax;refine Wl.r 11 (fun K j=>?_);go_simp
       refine b0.mono ?_;rintro e T ⟨rfl,aD,af,aj⟩;have Y:=yO aj cW q.o.2.2.2.1;have aH:=yO aj cU cV;obtain⟨-,-,-,-,bq,-,-,-,-⟩:=af.cells;have M:T.cell? ⟨c,18,none⟩=some (ptr p.ix)/\T.cell? ⟨m,0,none⟩=some (.int .i64 (H:Int))/\T.cell? ⟨m,1,none⟩=some (.int .i64 (D:Int))/\T.cell? ⟨m,2,none⟩=some (.bool ae):=by
        rw[za Y.1,za Y.1,za Y.1,q.o.2.2.2.2.1];exact⟨bq,rfl,rfl,rfl⟩
       refine j.o _ _ M (fun _=>?_);clear j K;refine Wl.i [12,13,14] ?_;iterate 3 refine Wl.t M ?_
       refine Wl.o ?_;refine Wl.r 16 (fun K j=>?_);rw[if_pos oE];refine qZd _ _ _ rfl _ _ #[.int .i64 (-1),.bool false] rfl rfl (fun a7 hj=>by rw[za aH.1,zf aH.1,qXy];exact⟨by rw[qxe oC];rfl,rfl⟩) YX (qYo jz) ?_;simp only[Act.put,qXe];have aE:(T.setCells A 0 [.int .i64 (-1),.bool false]).rangeAt A 0 [.int .i64 (-1),.bool false]:=qYl _ _ _ _ (fun a7 hj=>by rw[za aH.1,zf aH.1,qXy];exact⟨by rw[qxe oC];rfl,rfl⟩);have N:=zn T A 0 [.int .i64 (-1),.bool false];have aF:=af.ky N (fun a7 e=>by subst e;have:=cf.o;exact⟨aH.2,oM,oM⟩);have a8:=cX.trans aj;have ap:Did ak aD an (T.setCells A 0 [.int .i64 (-1),.bool false]):=⟨a8.upd.new N (fun i bW e=>by have:=cf.o;omega),a8.old,a8.new,fun a7 hj=>a8.far a7 (by have:=N.size;omega)⟩
       have aG:=(N.block m (zd Y.1) (fun e=>ao e.symm)).trans Y.1;refine j.o _ _ ⟨N.j3 M.1 br,N.j3 M.2.1 (fun e=>ao e.symm),N.j3 M.2.2.1 (fun e=>ao e.symm),N.j3 M.2.2.2 (fun e=>ao e.symm)⟩ (fun bs=>?_);clear j K;generalize T.setCells A 0 [.int .i64 (-1),.bool false]=cT at*;refine Wl.i [17] ?_;iterate 1 refine Wl.t bs ?_
       refine Wl.o ?_;refine Wl.d ?_;go_wp2_with fail
       go_meet
       case rel=>exact⟨A,aD,rfl,rfl,aE,aF,q.o.2.1.trans ap,aG,Y.2,aH.2⟩
     case rest=>
      obtain⟨A,ds,rfl,rfl,aE,aF,ap,aG,ch,ci⟩:=hcut;have ag:=Y5 aF ap aG ch ci;have cY:∀b:World,(binOp .neq 256 (.agg #[.int .i64 (-1),.bool false]) (.agg #[.int .i64 (-1),.bool false])).run prog b=.ok (.bool false) b:=fun b=>by rw[Zl];rfl
      clear aF ap aG ch ci aA z0 cb cc c9;go_wp2_with (first
       |(refine tS oE _ _ rfl _ _ rfl _ _ aE cM rfl YX ?_)
       |fail)
      have cj:=Y4 ag.o.1 ag.o.2.1 ag.o.2.2.1 ag.o.2.2.2.1;clear aE cY;replace ag:=cj;clear cj;have k:=(uur (fun _=>False) wc).drew;have hx:=ag.o.1.new k;have E:=k.j4 ag.o.2.2.1;have cZ:=qqh (ag.o.2.1.trans (ag.o.1.ko k));have O:(fun b:World=>b.cell? ⟨c,19,none⟩=some (ptr p.ss)/\b.cell? ⟨m,1,none⟩=some (.int .i64 (D:Int))) wc.drew:=by
        obtain⟨-,-,-,aa,ab,U,V,Z,a6⟩:=hx.cells;exact⟨U,by rw[za E,q.o.2.2.2.2.1];rfl⟩
      have d0:=qqh (xj hx (D:Int) 1);have d1:=qqh E;clear k hx E;go_wp2_with fail
      refine qZc (S:=fun b=>b.cell? ⟨c,19,none⟩=some (ptr p.ss)/\b.cell? ⟨m,1,none⟩=some (.int .i64 (D:Int))) kR O (fun F=>?_);clear O;refine Wl.i [0,1,2,3,4,5] ?_;iterate 6 refine Wl.t F ?_
      refine Wl.o ?_;refine Wl.r 6 (fun K j=>?_);go_simp
      refine d0.o.mono ?_;rintro e bt ⟨rfl,dt,bu,aV⟩;have gd:=yO aV d1.o ag.o.2.2.2;have Q:(fun b:World=>b.cell? ⟨c,19,none⟩=some (ptr p.ss)/\b.cell? ⟨m,1,none⟩=some (.int .i64 (D:Int))) bt:=by
        obtain⟨-,-,-,aa,ab,U,V,Z,a6⟩:=bu.cells;exact⟨U,by rw[za gd.1,q.o.2.2.2.2.1];rfl⟩
      refine j.o _ _ Q (fun _=>?_);clear j K F Q;refine Wl.d ?_;have aO:=Y3 bu (cZ.out.trans aV) gd;clear bu aV gd;have k:=(uur (fun _=>False) bt).drew;have hx:=aO.o.1.new k;have E:=k.j4 aO.o.2.2.1;have d2:=qqh (aO.o.2.1.trans (aO.o.1.ko k));have O:(fun b:World=>b.cell? ⟨c,19,none⟩=some (ptr p.ss)/\b.cell? ⟨m,1,none⟩=some (.int .i64 (D:Int))) bt.drew:=by
        obtain⟨-,-,-,aa,ab,U,V,Z,a6⟩:=hx.cells;exact⟨U,by rw[za E,q.o.2.2.2.2.1];rfl⟩
      have d3:=qqh (xj hx (D:Int) 2);have d4:=qqh E;clear k hx E;go_wp2_with fail
      refine qZc (S:=fun b=>b.cell? ⟨c,19,none⟩=some (ptr p.ss)/\b.cell? ⟨m,1,none⟩=some (.int .i64 (D:Int))) kR O (fun F=>?_);clear O;refine Wl.i [0,1,2,3,4,5] ?_;iterate 6 refine Wl.t F ?_
      refine Wl.o ?_;refine Wl.r 6 (fun K j=>?_);go_simp
      refine d3.o.mono ?_;rintro e bv ⟨rfl,du,bx,aL⟩;have gd:=yO aL d4.o aO.o.2.2.2;have Q:(fun b:World=>b.cell? ⟨c,19,none⟩=some (ptr p.ss)/\b.cell? ⟨m,1,none⟩=some (.int .i64 (D:Int))) bv:=by
        obtain⟨-,-,-,aa,ab,U,V,Z,a6⟩:=bx.cells;exact⟨U,by rw[za gd.1,q.o.2.2.2.2.1];rfl⟩
      refine j.o _ _ Q (fun _=>?_);clear j K F Q;refine Wl.d ?_;have aP:=Y3 bx (d2.out.trans aL) gd;clear bx aL gd;have k:=(uur (fun _=>False) bv).drew;have hx:=aP.o.1.new k;have E:=k.j4 aP.o.2.2.1;have d5:=qqh (aP.o.2.1.trans (aP.o.1.ko k));have O:(fun b:World=>b.cell? ⟨c,20,none⟩=some (ptr p.lg)/\b.cell? ⟨m,1,none⟩=some (.int .i64 (D:Int))) bv.drew:=by
        obtain⟨-,-,-,aa,ab,U,V,Z,a6⟩:=hx.cells;exact⟨V,by rw[za E,q.o.2.2.2.2.1];rfl⟩
      have d6:=qqh (QO hx D W.o.2.2.1);have d7:=qqh E;clear k hx E;go_wp2_with fail
      refine qZc (S:=fun b=>b.cell? ⟨c,20,none⟩=some (ptr p.lg)/\b.cell? ⟨m,1,none⟩=some (.int .i64 (D:Int))) kR O (fun F=>?_);clear O;refine Wl.i [0,1,2,3,4,5] ?_;iterate 6 refine Wl.t F ?_
      refine Wl.o ?_;refine Wl.r 6 (fun K j=>?_);go_simp
      refine d6.o.mono ?_;rintro e bz ⟨rfl,dw,bA,aM⟩;have gd:=yO aM d7.o aP.o.2.2.2;have Q:(fun b:World=>b.cell? ⟨c,20,none⟩=some (ptr p.lg)/\b.cell? ⟨m,1,none⟩=some (.int .i64 (D:Int))) bz:=by
        obtain⟨-,-,-,aa,ab,U,V,Z,a6⟩:=bA.cells;exact⟨V,by rw[za gd.1,q.o.2.2.2.2.1];rfl⟩
      refine j.o _ _ Q (fun _=>?_);clear j K F Q;refine Wl.d ?_;have aQ:=Y3 bA (d5.out.trans aM) gd;clear bA aM gd;have k:=(uur (fun _=>False) bz).drew;have hx:=aQ.o.1.new k;have E:=k.j4 aQ.o.2.2.1;have d8:=qqh (aQ.o.2.1.trans (aQ.o.1.ko k));have O:(fun b:World=>b.cell? ⟨c,20,none⟩=some (ptr p.lg)/\b.cell? ⟨m,1,none⟩=some (.int .i64 (D:Int))/\b.cell? ⟨m,0,none⟩=some (.int .i64 (H:Int))) bz.drew:=by
        obtain⟨-,-,-,aa,ab,U,V,Z,a6⟩:=hx.cells;exact⟨V,by rw[za E,q.o.2.2.2.2.1];rfl,by rw[za E,q.o.2.2.2.2.1];rfl⟩
      have d9:=qqh (Yv hx D W.o.2.2.1 (H:Int) (.inr ⟨oM,by have:=W.o.2.1;omega⟩));have da:=qqh E;clear k hx E;go_wp2_with fail
      refine qZc (S:=fun b=>b.cell? ⟨c,20,none⟩=some (ptr p.lg)/\b.cell? ⟨m,1,none⟩=some (.int .i64 (D:Int))/\b.cell? ⟨m,0,none⟩=some (.int .i64 (H:Int))) kR O (fun F=>?_);clear O;refine Wl.i [0,1,2,3,4,5,6,7] ?_;iterate 8 refine Wl.t F ?_
      refine Wl.o ?_;refine Wl.r 8 (fun K j=>?_);go_simp
      refine d9.o.mono ?_;rintro e bB ⟨rfl,dx,bC,bD⟩;have gd:=yO bD da.o aQ.o.2.2.2;have Q:(fun b:World=>b.cell? ⟨c,20,none⟩=some (ptr p.lg)/\b.cell? ⟨m,1,none⟩=some (.int .i64 (D:Int))/\b.cell? ⟨m,0,none⟩=some (.int .i64 (H:Int))) bB:=by
        obtain⟨-,-,-,aa,ab,U,V,Z,a6⟩:=bC.cells;exact⟨V,by rw[za gd.1,q.o.2.2.2.2.1];rfl,by rw[za gd.1,q.o.2.2.2.2.1];rfl⟩
      refine j.o _ _ Q (fun _=>?_);clear j K F Q;refine Wl.d ?_;have aR:=Y3 bC (d8.out.trans bD) gd;clear bC bD gd;have k:=(uur (fun _=>False) bB).drew;have hx:=aR.o.1.new k;have E:=k.j4 aR.o.2.2.1;have db:=qqh (aR.o.2.1.trans (aR.o.1.ko k));have O:(fun b:World=>b.cell? ⟨c,21,none⟩=some (ptr p.ck)/\b.cell? ⟨m,0,none⟩=some (.int .i64 (H:Int))) bB.drew:=by
        obtain⟨-,-,-,aa,ab,U,V,Z,a6⟩:=hx.cells;exact⟨Z,by rw[za E,q.o.2.2.2.2.1];rfl⟩
      have dc:=qqh (Tj hx (H:Int) (by have:=W.o.2.1;have:=aw.o.ok.b2;unfold InR;omega) (by show ad.kN<maxLen;have h1:=W.o.2.2.2.2.2.1;have h2:=W.o.2.2.2.2.2.2.2;omega));have dd:=qqh E;clear k hx E;go_wp2_with fail
      refine qZc (S:=fun b=>b.cell? ⟨c,21,none⟩=some (ptr p.ck)/\b.cell? ⟨m,0,none⟩=some (.int .i64 (H:Int))) kR O (fun F=>?_);clear O;refine Wl.i [0,1,2,3,4,5] ?_;iterate 6 refine Wl.t F ?_
      refine Wl.o ?_;refine Wl.r 6 (fun K j=>?_);go_simp
      refine dc.o.mono ?_;rintro e bE ⟨rfl,dy,bF,bG⟩;have gd:=yO bG dd.o aR.o.2.2.2;have Q:(fun b:World=>b.cell? ⟨c,21,none⟩=some (ptr p.ck)/\b.cell? ⟨m,0,none⟩=some (.int .i64 (H:Int))) bE:=by
        obtain⟨-,-,-,aa,ab,U,V,Z,a6⟩:=bF.cells;exact⟨Z,by rw[za gd.1,q.o.2.2.2.2.1];rfl⟩
      refine j.o _ _ Q (fun _=>?_);clear j K F Q;refine Wl.d ?_;have aS:=Y3 bF (db.out.trans bG) gd;clear bF bG gd;have k:=(uur (fun _=>False) bE).drew;have hx:=aS.o.1.new k;have E:=k.j4 aS.o.2.2.1;have df:=qqh (aS.o.2.1.trans (aS.o.1.ko k));have O:(fun b:World=>b.cell? ⟨c,22,none⟩=some (.map (some p.sm))/\b.cell? ⟨m,0,none⟩=some (.int .i64 (H:Int))/\b.cell? ⟨m,3,none⟩=some (.int .i64 (aB:Int))) bE.drew:=by
        obtain⟨-,-,-,aa,ab,U,V,Z,a6⟩:=hx.cells;exact⟨a6,by rw[za E,q.o.2.2.2.2.1];rfl,by rw[za E,q.o.2.2.2.2.1];rfl⟩
      obtain⟨dg,dh,di,bH,bI⟩:=Wh hx (x:=(H:Int)) oM (by have:=W.o.2.1;have:=aw.o.ok.b2;omega) aB (by have:=W.o.2.2.2.1;omega) (by show ad.mN<maxLen;have h1:=W.o.2.2.2.2.2.2.1;have h2:=W.o.2.2.2.2.2.2.2;omega);have dz:=qqh E;have Q:(fun b:World=>b.cell? ⟨c,22,none⟩=some (.map (some p.sm))/\b.cell? ⟨m,0,none⟩=some (.int .i64 (H:Int))/\b.cell? ⟨m,3,none⟩=some (.int .i64 (aB:Int))) dg:=by
       have gd:=yO bI E aS.o.2.2.2;obtain⟨-,-,-,aa,ab,U,V,Z,a6⟩:=bH.cells;exact⟨a6,by rw[za gd.1,q.o.2.2.2.2.1];rfl,by rw[za gd.1,q.o.2.2.2.2.1];rfl⟩
      have cl:=Y2 bH (df.out.trans bI);clear k hx E bH bI;go_wp2_with fail
      refine qZc (S:=fun b=>b.cell? ⟨c,22,none⟩=some (.map (some p.sm))/\b.cell? ⟨m,0,none⟩=some (.int .i64 (H:Int))/\b.cell? ⟨m,3,none⟩=some (.int .i64 (aB:Int))) kR O (fun F=>?_);clear O;refine Wl.i [0,1,2,3,4,5,6,7] ?_;iterate 8 refine Wl.t F ?_
      refine Wl.o ?_;refine Wl.r 8 (fun K j=>?_);go_simp
      refine j.o _ _ Q (fun _=>?_);clear j K F Q di;refine Wl.d ?_;go_wp2_with fail
      go_roundg (gk-1)
      case measure=>omega
      case rel=>exact⟨i+1,oM,by go_num,dh,by rw[W.o.1];exact cl.o.1,cl.o.2⟩
    .obtain rfl:i=L.length:=oM;have q1:¬((L.length:Int)<(L.length:Int)):=oM;rw[List.take_length]at aq;have co:=Y2 aq aN;clear aq aN hlt;go_wp2
     go_ret
     exact⟨rfl,ak,co.o.1,co.o.2⟩
end
end Go.Proofs.YtpejdgiccaijfaaGreatDoor
