/- What lavabolaw -/
import Derived.Test.YtbnpkobbnjihjaaGreatDoorG26
import Derived.Test.YtbnpkobbnjihjaaGreatDoorG27
import Derived.Test.YtbnpkobbnjihjaaGreatDoorG28
set_option maxRecDepth 100000
set_option maxHeartbeats 2000000
namespace Go.Proofs.YtbnpkobbnjihjaaGreatDoor
open Go Go.RowKit Tryz
variable{w:World}{L:List Ent}{v:Value}
structure CaS.Gd(n:CaN)(a:CaS)(N:Nat):Prop where
 tie:a.Tie n none
 fit:a.Fit N
 pd:a.dP.length<=N
 pb:a.bP.length<=N
theorem yP{own own':Nat->Nat}{w':World}{b:Nat}{o:Obj}(d:Did own own' w w')(h:w.heap[b]?=some o)(j:own b=0):w'.heap[b]?=some o/\own' b=0:=
 ⟨(d.upd.block _ (zd h) (fun k=>k.1 j)).trans h,(d.old _ (zd h)).trans j⟩
theorem Yx:(prog.info? 132).map (·.size)=some 4:=kR
theorem Yy:(prog.info? 231).map (·.size)=some 2:=kR
theorem tM{j:Type}{enc:j->List Value}{m:Nat}(b:∀x,(enc x).length=m)(q:0<m):∀(L:List j) (k:Nat),(L.flatMap enc)[k]?=(L[k/m]?).bind (fun y=>(enc y)[k%m]?)
 |[],k=>oe
 |y::L,k=>by
  rw[qye];by_cases h:k<m
  .rw [qyg (by rw[b];exact h),Nat.div_eq_of_lt h,qXt h];simp
  .rw [qyh (by rw[b];omega),b,tM b q L (k-m)];obtain⟨s,rfl⟩:∃s,k=s+m:=⟨k-m,oM⟩
   rw[Nat.add_sub_cancel,Nat.add_div_right _ q,Nat.add_mod_right];simp
theorem Sl.ent_set{e:TypeId}{g off n cap:Nat}(h:Sl w e 4 (.slice (some ⟨g,off,none⟩) n cap) n (L.flatMap entC)){i:Nat}(F:i<L.length)(x:Ent):
  Sl (w.setCells g (off+i*4) (entC x)) e 4 (.slice (some ⟨g,off,none⟩) n cap) n ((L.set i x).flatMap entC):=by
 have k:∀L:List Ent,(L.flatMap entC).length=L.length*4:=fun L=>by
  induction L with
  |nil=>rfl
  |cons y L G=>rw[qye,qyy,G,qyz];show 4+_=_;omega
 obtain⟨q,⟨h1,h2⟩|⟨R,S,T,H,h1,J,s,K,M,N⟩⟩:=h
 .cases h1
 cases h1;obtain⟨O,h1,h2,Q⟩:=zC (entC x) (off+i*4) w g H _ _ J;rw[k]at q;refine⟨by rw[k,qze];exact q,.inr ⟨g,off,cap,O,rfl,h1,s,K,by rw[h2];exact M,fun j u b=>?_⟩⟩;have U:j<L.length*4:=by
  have:=(qyl.1 b).1;rw[k,qze]at this;exact this
 rw[tM (enc:=entC) (m:=4) (fun _=>rfl) de]at b;have A:=N j;rw[tM (enc:=entC) (m:=4) (fun _=>rfl) de]at A;have V:n<=cap:=s;have D:(entC x).length=4:=rfl;rw[Q];by_cases E:j/4=i
 .rw [if_pos ⟨oM,by rw[D];omega,oM⟩];rw[E,List.getElem?_set_self F]at b;rw[show off+j-(off+i*4)=j%4 by omega];exact b
 .rw [if_neg (fun h=>by rw[D]at h;omega)];rw[List.getElem?_set_ne (fun e=>E e.symm)]at b;exact A u b
theorem zcg(x:Ent)(w:World):Calls prog 64 #[.agg (entC x).toArray] w fun e w'=>e=.returned (.bool (!x.d))/\Below w.heap.size w w':=by
 obtain⟨w1,b⟩:=qqe (w.alloc (.cells (entC x).toArray 132));have j:Below w.heap.size w w1:=by rw[b];exact(qxl _ w).alloc (qXp _) _
 have k:w1.cell? ⟨w.heap.size,2,none⟩=some (.bool x.d):=by rw[b,za (zc w _ rfl)];rfl
 have h:=qqh b;obtain⟨q,s,d,m⟩:=x;simp only[entC]at h⊢;simp only at k;clear b;go_enter func64,ntmps64
 go_upto_region 1 with fail
 rw[<-h.o];go_wp2
 go_ret
 exact⟨rfl,j⟩
def idxE(L:List Ent):Int:=match L.findIdx? (fun x=>!x.d)with|some i=>(i:Int)|none=> -1
abbrev zfG:Value:=.func (.func 64) #[] #[]
theorem zhp(s:Sl w 132 4 v L.length (L.flatMap entC)):
  Calls prog 106 #[v,zfG] w fun e w'=>e=.returned (.int .i64 (idxE L))/\Below w.heap.size w w':=by
 obtain⟨Z,a6,R⟩:=s.rd.jW;have T:=s.le;unfold maxLen at T;subst R;have U:=qqh s;obtain⟨a7,F⟩:=qqe (idxE L);rw[<-F];have H:=qqh F;clear s F;go_enter func106,ntmps106
 go_wp2_with fail
 go_loopg[8] L.length (fun gk V wr=>∃i:Nat,i+gk=L.length/\V=.int .i64 (i:Int)/\(∀j (h:j<L.length),j<i->L[j].d=true)/\Below w.heap.size w wr)
 case atStart=>exact⟨0,oM,rfl,fun j _ h=>absurd h (Nat.not_lt_zero _),qxl _ _⟩
 case round=>
  obtain⟨i,a8,rfl,A,q⟩:=hrel;by_cases hlt:i<L.length
  .obtain ⟨aa,ab,ca,W,X,J⟩:=(U.o.keep (uuo (S:=fun _=>False) q) (fun _ _ h=>h)).rd.at oM;cases W;have D:=xY (enc:=entC) (m:=4) (fun _=>rfl) J hlt;have G:=zcg L[i] wr;obtain⟨x,hx⟩:=qqe (L[i]);rw[<-hx]at D G;have K:(prog.info? 132).map (·.size)=some (entC x).length:=Yx;have Y:=underlying132;have q1:(i:Int)<(L.length:Int):=oM;have ad:(0:Int)<=(i:Int):=oM;have b:=Y5 A q hx G hlt;clear A q G X J;obtain⟨ae,M⟩:=qqe (entC x);have E:=b.o.2.2.2.1;rw[<-M]at D K E;replace E:=qqh E;clear M;go_wp2_with (first
    |(refine qZa rfl _ _ rfl _ _ rfl _ _ D Y rfl K ?_)
    |fail)
   refine E.o.mono ?_;rintro e w1 ⟨rfl,N⟩;have O:=qqh (b.o.2.1.trans (N.mono b.o.2.1.size));clear N D;cases Q:x.d with
   |false=>
    rw[Bool.not_false];go_wp2
    go_ret
    refine⟨?_,O.out⟩;rw[H.o];have:L.findIdx? (fun x=>!x.d)=some i:=by
     rw[List.findIdx?_eq_some_iff_getElem];exact⟨b.o.2.2.2.2,by rw[<-b.o.2.2.1,Q];rfl,fun j k=>by rw[b.o.1 j (by have:=b.o.2.2.2.2;omega) k];simp⟩
    unfold idxE;rw[this];rfl
   |true=>
    rw[Bool.not_true];go_wp2_with fail
    go_roundg (gk-1)
    case measure=>omega
    case rel=>
     refine⟨i+1,oM,by go_num,fun j k af=>?_,O.out⟩;by_cases e:j=i
     .subst e;rw[<-b.o.2.2.1];exact Q
     .exact b.o.1 j k oM
  .obtain rfl:i=L.length:=oM;have q1:¬((L.length:Int)<(L.length:Int)):=oM;have b:=Y2 A q;clear A q hlt;go_wp2
   go_ret
   refine⟨?_,b.o.2⟩;rw[H.o];have:L.findIdx? (fun x=>!x.d)=none:=by
    rw[List.findIdx?_eq_none_iff];intro x hx;obtain⟨j,k,rfl⟩:=qyv hx;rw[b.o.1 j k k];rfl
   unfold idxE;rw[this];rfl
theorem zbo:(prog.info? 132).map (fun i=>(i.zero.map (fun z=>(z.cells.size,z.cells.all (·.oneCell'))),i.size))=some (some (4,true),4):=kR
theorem Yz{g off n cap:Nat}{b:Array Value}(k:w.heap[g]?=some (.cells b 132 (0,0)))(S:off+n*4<=b.size)(T:0<n):
  ∃w',(∀s,(Builtin.clear_ #[123] s #[.slice (some ⟨g,off,none⟩) n cap]).run prog w=.ok (.tuple #[]) w')/\Upd (fun q=>q=g) w w'/\
   ∃j,w'.heap[g]?=some (.cells j 132 (0,0))/\j.size=b.size/\∀i,i<off->j[i]?=b[i]?:=by
 obtain⟨i,A,h⟩:=qYc.1 zbo;simp only[qYe]at h;obtain⟨z,J,D⟩:=qYc.1 h.1;simp only[qYe]at D;obtain⟨K,M⟩:=D;have N:(Builtin.zeroCells z.cells n).toList.length=n*4:=by simp[Builtin.zeroCells,K]
 have h1:∀v∈(Builtin.zeroCells z.cells n).toList,v.oneCell'=true:=by
  intro v E;simp only[Builtin.zeroCells,Array.toList_map,qzq]at E;obtain⟨F,U,rfl⟩:=E;have:F%z.cells.size<z.cells.size:=qXu _ oM;rw[getElem!_pos z.cells (F%z.cells.size) this];exact Array.all_eq_true.1 M _ this
 have G:=run_storeCells_cells (P:=prog) g off (Builtin.zeroCells z.cells n).toList 0 w
  (fun q H=>by rw[N]at H;rw[za k,qXm,qxe oM];rfl) (fun q H=>zg k _) h1
 simp only[qXm]at G;obtain⟨j,h2,O,Q⟩:=zC (Builtin.zeroCells z.cells n).toList off w g b _ _ k;have R:∀w,(zeroValue 132).run prog w=.ok z w:=fun w=>by simp[zeroValue,typeInfo,A,J]
 refine⟨_,fun s=>?_,yo _ w g off _ rfl,j,h2,O,fun i A=>by rw[Q,if_neg oM]⟩;obtain⟨m,rfl⟩:∃m,n=m+1:=⟨n-1,oM⟩
 simp[Builtin.clear_,run_underlying underlying123,R,G]
def zdO(w:World)(v:Value)(M:List Ent)(e:Ending)(w':World):Prop:=∃v',e=.returned v'/\Sl w' 132 4 v' M.length (M.flatMap entC)/\v'.ownBlock=v.ownBlock/\Upd (fun k=>v.ownBlock=some k) w w'
def dirE(L:List Ent)(j:Nat):List Ent:=(L.take j).filter (fun x=>x.d)
theorem vP{j:Nat}(h:j<L.length):dirE L (j+1)=dirE L j++(if L[j].d=true then[L[j]]else[]):=by
 unfold dirE;rw[qXk h,List.filter_append]
 congr 1
 by_cases b:L[j].d=true
 .rw [if_pos b];simp[b]
 .rw [if_neg b];simp[b]
theorem sg{L:List Ent}:∀i,i<=L.length->(∀b (h:b<L.length),b<i->L[b].d=true)->dirE L i=L.take i
 |0,_,_=>rfl
 |i+1,k,h=>by
  rw[vP oM,sg i oM (fun b j q=>h b j oM),if_pos (h i oM oM),qXk oM]
theorem zhq(H:Sl w 132 4 v L.length (L.flatMap entC)):
  Calls prog 63 #[v,zfG] w (zdO w v (dirE L L.length)):=by
 have a8:=qqh (zhp H);by_cases V:∀b (h:b<L.length),L[b].d=true
 .have W:idxE L= -1:=by
   have:L.findIdx? (fun x=>!x.d)=none:=by
    rw[List.findIdx?_eq_none_iff];intro x hx;obtain⟨b,J,rfl⟩:=qyv hx;rw[V b J];rfl
   unfold idxE;rw[this]
  rw[W]at a8;have aq:dirE L L.length=L:=by rw[sg _ (qXp _) (fun b J _=>V b J),List.take_length]
  rw[aq];have Q:=qqh H;clear H V W aq;go_enter func63,ntmps63
  go_wp2_with fail
  refine a8.o.mono ?_;rintro e w' ⟨rfl,X⟩;go_wp2
  go_ret
  exact⟨v,rfl,Q.o.keep (uuo (S:=fun _=>False) X) (fun _ _ h=>h),rfl,(uuo X)⟩
 .obtain ⟨s,b3,ar,au,W⟩:∃(s:Nat) (h:s<L.length),L[s].d=false/\(∀b (h:b<L.length),b<s->L[b].d=true)/\idxE L=(s:Int):=by
   cases E:L.findIdx? (fun x=>!x.d)with
   |none=>
    rw[List.findIdx?_eq_none_iff]at E;exact absurd (fun b h=>by simpa using E L[b] (qyu h)) V
   |some i=>
    have b4:=E;rw[List.findIdx?_eq_some_iff_getElem]at E;obtain⟨a1,a2,a3⟩:=E;refine⟨i,a1,by simpa using a2,fun b J b5=>by simpa using a3 b b5,?_⟩;unfold idxE;rw[b4]
  rw[W]at a8;have b6:=H.le;obtain⟨av,⟨-,h2⟩|⟨g,F,N,b7,rfl,aw,ax,ay,az,aA⟩⟩:=H
  .omega
  have Q:=Y4 (show Sl w 132 4 (.slice (some ⟨g,F,none⟩) L.length N) L.length (L.flatMap entC)from⟨av,.inr ⟨g,F,N,b7,rfl,aw,ax,ay,az,aA⟩⟩) b3 ar au;unfold maxLen at b6 ay;have bs:=ax;clear V W ar au av aw az aA;go_enter func63,ntmps63
  go_wp2_with fail
  refine a8.o.mono ?_;rintro e w1 ⟨rfl,X⟩;have aB:=qqh (uuo (S:=fun _=>False) X);clear X;go_wp2_with fail
  go_loopg[5,6] (L.length-(s+1)) (fun gk b8 b9 wr=>∃(b:Nat) (A:List Ent),b+gk=L.length/\s<b/\b9=.int .i64 (b:Int)/\b8=.int .i64 ((dirE L b).length:Int)/\(dirE L b).length<b/\A.length=L.length/\A.take (dirE L b).length=dirE L b/\(∀G,b<=G->A[G]?=L[G]?)/\Sl wr 132 4 (.slice (some ⟨g,F,none⟩) L.length N) L.length (A.flatMap entC)/\Upd (fun j=>j=g) w wr)
  case atStart=>
   have aC:dirE L (s+1)=L.take s:=by rw[vP Q.o.2.1,sg s oM Q.o.2.2.2,if_neg (by rw[Q.o.2.2.1];decide),qxw]
   have aD:(dirE L (s+1)).length=s:=by rw[aC,qzf];omega
   exact⟨s+1,L,oM,oM,by go_num,by rw[aD],oM,rfl,by rw[aD,aC],fun _ _=>rfl,Q.o.1.keep aB.o (fun _ _ h=>h),aB.o.mono fE⟩
  case round=>
   obtain⟨b,A,J,bt,rfl,rfl,aE,aF,K,Y,Z,aa⟩:=hrel;by_cases hlt:b<L.length
   .have aG:b<A.length:=oM;have aH:A[b]=L[b]:=by
     have:=Y b (qXp _);rw[qyj aG,qyj hlt]at this;exact qYd this
    obtain⟨bu,bv,ca,ba,bb,aI⟩:=Z.rd.at oM;cases ba;have ab:=xY (enc:=entC) (m:=4) (fun _=>rfl) aI aG;obtain⟨x,hx⟩:=qqe (L[b]);rw[aH,<-hx]at ab;obtain⟨D,R⟩:=qqe (entC x);have aJ:∀v∈D,v.oneCell'=true:=by rw[R];intro v H;simp[entC]at H;rcases H with rfl|rfl|rfl|rfl<;>rfl
    have ah:D.length=4:=by rw[R];rfl
    have a6:(prog.info? 132).map (·.size)=some D.length:=by rw[ah];exact Yx
    rw[<-R]at ab;obtain⟨bc,ad⟩:=qqe (wr.alloc (.cells D.toArray 132));have aK:=qqu ad;obtain⟨G,E⟩:=qqe (wr.heap.size);have ae:=zf (zc wr (.cells D.toArray 132) rfl);rw[<-ad,<-E]at ae;have aL:g≠G:=fun e=>by have:=Z.lt (g:=g) rfl;omega
    have ai:=zcg x bc;rw[<-R]at ai;have q1:(b:Int)<(L.length:Int):=oM;have bx:(0:Int)<=(b:Int):=oM;obtain⟨j,q⟩:=qqe ((dirE L b).length);rw[<-q]at aE K⊢;have k:=Y11 aF K Y Z aa aK ai hx R q aL;have aM:=Y2 ad E;have aj:=underlying132;clear aF K Y Z aa aK ai bb aI R q ad E aH hx aL;go_wp2_with (first
     |(refine qZa rfl _ _ rfl _ _ rfl _ _ ab aj rfl a6 ?_)
     |(refine zk rfl _ _ _ rfl _ _ D rfl rfl (by rw[ah];rfl) a6 aJ ?_;refine Stop.i ?_)
     |fail)
    rw[<-aM.o.1,<-aM.o.2];unfold Stop;go_wp2_with (first
     |(refine qZa rfl _ _ rfl _ _ rfl _ _ ae aj rfl a6 ?_)
     |fail)
    refine k.o.2.2.2.2.2.2.1.mono ?_;rintro e T ⟨rfl,aN⟩;have O:=uuo (S:=fun _=>False) aN;have aO:=O.range ae id;have aP:=(k.o.2.2.2.1.keep k.o.2.2.2.2.2.1 (fun _ _ h=>h)).keep O (fun _ _ h=>h);have aQ:=k.o.2.2.2.2.1.trans (((k.o.2.2.2.2.2.1).trans O).mono fE);have M:=Y2 aP aQ;clear aP aQ O aN ab ae;cases aR:x.d with
    |false=>
     rw[Bool.not_false];go_wp2_with fail
     go_roundg (gk-1)
     case measure=>omega
     case rel=>
      have U:dirE L (b+1)=dirE L b:=by rw[vP hlt,<-k.o.2.2.2.2.2.2.2.1,if_neg (by rw[aR];decide),qxw]
      have q:=k.o.2.2.2.2.2.2.2.2.2.1;exact⟨b+1,A,oM,oM,by go_num,by rw[U,q],by rw[U,<-q];omega,k.o.1,by rw[U,<-q];exact k.o.2.1,fun G E=>k.o.2.2.1 G oM,M.o.1,M.o.2⟩
    |true=>
     rw[Bool.not_true];have aS:T.there g (F+j*4) D.toArray.size:=fun i aT=>by
      obtain⟨-,⟨h1,-⟩|⟨bd,be,bf,bg,h1,a7,bh,aU,ak,af⟩⟩:=M.o.1
      .cases h1
      cases h1;have aT:i<4:=by simpa[ah]using aT
      rw[za a7,zg a7];exact⟨by rw[qxe oM];rfl,rfl⟩
     have bi:(0:Int)<=(j:Int):=oM;have bj:(j:Int)<(L.length:Int):=oM;have bk:(prog.info? 132).map (·.size)=some D.toArray.size:=by rw[qXh];exact a6
     have aV:j<A.length:=by have:=k.o.1;omega
     have aW:=k.o.2.2.2.2.2.2.2.2.1;obtain⟨bl,ag⟩:=qqe (T.setCells g (F+j*4) D);have am:=Sl.ent_set M.o.1 aV x;rw[<-aW,<-ag]at am;have aX:Upd (fun j=>j=g) w bl:=by rw[ag];exact M.o.2.trans (zo T g (F+j*4) D)
     have aY:=Y2 am aX;have bn:=qqh ag;clear am aX ag aW;go_wp2_with (first
      |(refine qZa rfl _ _ rfl _ _ rfl _ _ aO aj rfl a6 ?_)
      |(refine qZc rfl _ _ _ rfl _ _ D.toArray rfl rfl aS bk (qYo aJ) ?_;refine Stop.i ?_)
      |fail)
     unfold Stop;show wpList _ _ _ _ _ (T.setCells g (F+j*4) D);rw[<-bn.o];clear aO aS;go_wp2_with fail
     go_roundg (gk-1)
     case measure=>omega
     case rel=>
      have U:dirE L (b+1)=dirE L b++[x]:=by rw[vP hlt,<-k.o.2.2.2.2.2.2.2.1,if_pos aR]
      have q:=k.o.2.2.2.2.2.2.2.2.2.1;have an:(dirE L (b+1)).length=j+1:=by rw[U,qyy,<-q];rfl
      refine⟨b+1,A.set j x,oM,oM,by go_num,by rw[an];go_num,by rw[an];omega,by rw[qze];exact k.o.1,?_,fun G E=>?_,aY.o.1,aY.o.2⟩
      .rw [an,qXk (by rw[qze];exact aV),List.getElem_set_self,List.take_set_of_le (qXp _),k.o.2.1,U]
      .rw [List.getElem?_set_ne oM];exact k.o.2.2.1 G oM
   .obtain rfl:b=L.length:=oM;obtain⟨j,q⟩:=qqe ((dirE L L.length).length);rw[<-q]at aE K⊢;obtain⟨aZ,⟨h1,-⟩|⟨bd,be,bf,bg,h1,a7,bh,aU,ak,af⟩⟩:=Z
    .cases h1
    cases h1;obtain⟨T,bz,O,bo,b0,b1,ao⟩:=Yz (off:=F+j*4) (n:=L.length-j) (cap:=N-j) a7 oM oM;have b2:Sl T 132 4 (.slice (some ⟨g,F,none⟩) (dirE L L.length).length N) (dirE L L.length).length ((dirE L L.length).flatMap entC):=by
     have ap:((dirE L L.length).flatMap entC).length=(dirE L L.length).length*4:=by
      rw[<-K];clear K Y aZ af ao
      induction (List.take j A)with
      |nil=>rfl
      |cons y bA bp=>rw[qye,qyy,bp,qyz];show 4+_=_;omega
     refine⟨ap,.inr ⟨g,F,N,bo,rfl,b0,oM,aU,by rw[b1];exact ak,fun b u J=>?_⟩⟩;have bq:b<j*4:=by
      have:=(qyl.1 J).1;rw[ap,<-q]at this;exact this
     rw[ao _ oM];refine af b u ?_;rw[<-qXi j A,qyd,K,qyg (by rw[ap,<-q];exact bq)];exact J
    have M:=Y2 b2 (aa.trans O);have br:=qqh q;have q1:¬((L.length:Int)<(L.length:Int)):=oM;have bi:(0:Int)<=(j:Int):=oM;have bj:(j:Int)<=(L.length:Int):=oM;have bB:(j:Int)<=(N:Int):=oM;clear b2 aa O q aZ K Y af ao a7 b0 b1 ak;go_wp2
    go_ret
    refine⟨_,rfl,?_,rfl,M.o.2.mono (fun b _ e=>by simp[Value.ownBlock,e])⟩;rw[br.o];exact M.o.1
section
variable{own own':Nat->Nat}{w w':World}{c:Nat}{n:CaN}{p:CaP}{a:CaS}
theorem Rh(h:CaAt own w c n p a)(hv:Sl w 132 4 v L.length (L.flatMap entC))(bG:∀g,v.ownBlock=some g->own g=0)(bH:a.Tie n none)
  (bI:∀x∈L,x.b<n.bl/\x.s<n.sl/\x.m<=4294967295) (aS:(L.map (·.s)).Nodup) (bJ:(L.map (·.b)).Nodup) (bK:∀x∈L,a.st.getD x.s 0=0/\plc a.ps x.b=(-1,false)) (aH:a.iN+L.length<maxLen/\a.kN+L.length<maxLen/\a.mN+L.length<maxLen):
  Calls prog 112 #[ptr c,v] w (zx own w c n p (({a with G:=List.replicate n.sl Vn}:CaS).ldTo n L) (.int .i64 0)):=by
 have dg:=h.ok.s2;obtain⟨s0,cj,bL,cl,co,cp,cq⟩:=h.sup;have av:=qqh h;obtain⟨a1,ax⟩:∃a1:CaS,a1={a with G:=List.replicate n.sl Vn}:=⟨_,rfl⟩
 have bM:a1.Tie n none:=by rw[ax];exact bH
 have bN:∀x∈L,a1.st.getD x.s 0=0/\plc a1.ps x.b=(-1,false):=by rw[ax];exact bK
 have bO:a1.iN+L.length<maxLen/\a1.kN+L.length<maxLen/\a1.mN+L.length<maxLen:=by rw[ax];exact aH
 have W:=Y8 hv bG bM bI aS bJ bN bO;rw[<-ax];have cr:=qqh ax;obtain⟨dh,di,ct⟩:=hv.rd.jW;have cu:=hv.le;unfold maxLen at cu;subst ct;clear h s0 cj cl co cp cq hv bG bH bI aS bJ bK aH bM bN bO ax;go_enter func112,ntmps112
 go_wp2_with fail
 go_loopw[5,15] (fun _ b5 wr=>∃ag aI,ag<=n.sl/\b5=.int .i64 (ag:Int)/\CaAt aI wr c n p {a with G:=tY a.G ag}/\Did own aI w wr) (fun _ b5 _=>n.sl-(intOf b5).toNat)
 case atStart=>exact⟨0,own,qXz _,rfl,by rw[Vo];exact av.o,Did.refl av.o.far⟩
 case round=>
  obtain⟨ag,aI,dj,rfl,ah,aT⟩:=hrel;by_cases hlt:ag<n.sl
  .obtain ⟨cv,cx,aJ,ai,a7,ao,aU,aK,aL⟩:=ah.cells;have cy:=qqh (ZV ah ag hlt (-1) (.inl rfl));have aV:=qqh aT;clear ah aT cv cx aJ ai a7 ao aK aL bL;go_wp2_with fail
   refine cy.o.mono ?_;rintro e w1 ⟨rfl,cz,bP,bQ⟩;have V:=Y2 bP bQ;clear bP bQ;go_wp2
   go_roundw
   case rel=>
    refine⟨ag+1,cz,oM,by go_num,?_,aV.o.trans V.o.2⟩;have:=V.o.1;simp only[Vp (show ag<a.G.length by rw[av.o.Gl];exact hlt)]at this;exact this
   case measure=>simp[intOf];omega
  .obtain rfl:ag=n.sl:=oM;have bR:CaAt aI wr c n p a1:=by
    rw[<-av.o.Gl,Qk,av.o.Gl,<-cr.o]at ah;exact ah
   have aV:=Y2 bR aT;clear ah bR aT bL;go_wp2_with fail
   obtain⟨dk,dl⟩:∃x,x=wr:=⟨_,rfl⟩
   go_loopg[27] L.length (fun gk cA bS=>∃i:Nat,i+gk=L.length/\cA=.int .i64 (i:Int)/\∃aj,CaAt aj bS c n p (a1.ldTo n (L.take i))/\Did own aj w bS)
   case atStart=>exact⟨0,oM,rfl,aI,aV.o.1,aV.o.2⟩
   case round=>
    obtain⟨i,bT,rfl,aj,ap,aM⟩:=hrel;by_cases hlt:i<L.length
    .obtain ⟨x,hx⟩:∃x,x=L[i]:=⟨_,rfl⟩
     have b6:x∈L:=by rw[hx];exact qyu hlt
     obtain⟨aW,aX,b7⟩:=W.o.2.2.2.1 x b6;have bU:=qXa.1 W.o.2.2.2.2.1;have bV:=qXa.1 W.o.2.2.2.2.2.1;have b8:∀y∈L.take i,y.s≠x.s/\y.b≠x.b:=fun y hy=>by
      obtain⟨a6,hj,rfl⟩:=qyv hy;rw[qzf]at hj;rw[List.getElem_take,hx];exact⟨qzz.1 bU a6 i oM hlt oM,qzz.1 bV a6 i oM hlt oM⟩
     have ay:=CaS.ldTo_ok (n:=n) (L.take i) W.o.2.2.1 (fun y hy=>⟨(W.o.2.2.2.1 y (List.mem_of_mem_take hy)).1,(W.o.2.2.2.1 y (List.mem_of_mem_take hy)).2.1⟩) (W.o.2.2.2.2.1.sublist ((List.take_sublist i L).map _)) (W.o.2.2.2.2.2.1.sublist ((List.take_sublist i L).map _)) (fun y hy=>W.o.2.2.2.2.2.2.1 y (List.mem_of_mem_take hy));obtain⟨bW,bX⟩:=W.o.2.2.2.2.2.2.1 x b6;have b9:a1.ldTo n (L.take (i+1))=(a1.ldTo n (L.take i)).ldE n x:=by rw[qXk hlt,<-hx];unfold CaS.ldTo;rw[List.foldl_append];rfl
     obtain⟨ab,bY⟩:=qqe (a1.ldTo n (L.take i));rw[<-bY]at ap ay b9;have ba:ab.st.getD x.s 0=0:=(ay.slt _ (fun y hy=>(b8 y hy).1)).trans bW;have bb:plc ab.ps x.b=(-1,false):=((ay.blk _ (fun y hy=>(b8 y hy).2)).1).trans bX;obtain⟨bc,bd,-,-,-⟩:=CaS.Tie.ldE ay.tie x aW aX ba bb;obtain⟨be,bf,bg⟩:=ay.num;rw[qzf,Nat.min_eq_left oM]at be bf bg;have aH:=W.o.2.2.2.2.2.2.2;have bZ:=W.o.1.keep aM.upd (fun g cB aS=>aS.1 (W.o.2.1 g cB));obtain⟨cC,cD,ca,cE,cF,ah⟩:=bZ.rd.at oM;cases cE;have az:=xY (enc:=entC) (m:=4) (fun _=>rfl) ah hlt;rw[<-hx]at az;obtain⟨J,D,ad,aA⟩:=x;replace az:wr.rangeAt cC (cD+i*4) [.int .i64 (J:Int),.int .i64 (D:Int),.bool ad,.int .i64 (aA:Int)]:=az;simp only at aW aX b7 bc bd ba bb;obtain⟨ak,aq⟩:∃ak:List Value,ak=[.int .i64 (J:Int),.int .i64 (D:Int),.bool ad,.int .i64 (aA:Int)]:=⟨_,rfl⟩
     have cG:∀v∈ak,v.oneCell'=true:=by rw[aq];intro v hv;simp at hv;rcases hv with rfl|rfl|rfl|rfl<;>rfl
     have c0:ak.length=4:=by rw[aq];rfl
     have c3:(prog.info? 132).map (·.size)=some ak.length:=by rw[c0];exact Yx
     rw[<-aq]at az;obtain⟨m,bh⟩:=qqe (wr.heap.size);obtain⟨bi,aY⟩:=qqe (wr.alloc (.cells ak.toArray 132));have bj:=qqu aY;have c4:bi.heap[m]?=some (.cells ak.toArray 132 (0,0)):=by rw[aY,bh];exact zc wr _ rfl
     have c5:aj m=0:=ap.far m oM;have k:=(uur (fun _=>False) bi).drew;have h2:=ap.new (bj.trans k);have aJ:=aM.trans (ap.j3 (bj.trans k));have aB:=k.jV c4;obtain⟨am,bk⟩:=qqe (bi.drew);rw[<-bk]at h2 aJ aB;have aZ:∀b,Upd (fun _=>False) am b->Calls prog 186 #[ptr p.ix,.int .i64 (J:Int),zP (D:Int) ad] b (zx aj b c n p {ab with iN:=ab.iN+1,ps:=ui ab.ps n.sl (J:Int) (D:Int) ad} (.tuple #[zP (-1) false,.int .i64 0])):=fun b cH=>by
      have:=Jj (h2.new cH) (J:Int) (D:Int) ad oM;rw[bc,bd]at this;exact this
     have q1:(i:Int)<(L.length:Int):=oM;have dm:(0:Int)<=(i:Int):=oM;obtain⟨-,-,-,-,c6,-,-,-,-⟩:=h2.cells;have z0:am.cell? ⟨m,0,none⟩=some (.int .i64 (J:Int)):=by rw[za aB,aq];rfl
     have c7:am.cell? ⟨m,1,none⟩=some (.int .i64 (D:Int)):=by rw[za aB,aq];rfl
     have c8:am.cell? ⟨m,2,none⟩=some (.bool ad):=by rw[za aB,aq];rfl
     have b0:=Y3 aY bh bk;have q:=Y6 h2 aJ aB c5 aq aZ;have V:=Y8 b9 aW aX b7 be bf bg aH;have cI:=underlying132;have cJ:=underlying231;clear ap aM hlt hx b6 aW aX b7 bU bV b8 ay bW bX b9 bY ba bb bc bd be bf bg aH bZ cF ah aq bh aY bj c4 c5 k h2 aJ aB aZ bk;go_wp2_with (first
      |(refine qZa rfl _ _ rfl _ _ rfl _ _ az cI rfl c3 ?_)
      |(refine zk rfl _ _ _ rfl _ _ ak rfl rfl (by rw[c0];rfl) c3 cG ?_;refine Stop.i ?_)
      |fail)
     rw[<-b0.o.1,<-b0.o.2.1];unfold Stop;go_upto_region 9 with fail
     go_cut [8,9] (fun cK cL b1=>∃A b3,cK=.pointer (some ⟨A,0,none⟩)/\cL=.int .i64 0/\b1.rangeAt A 0 [.int .i64 (-1),.bool false]/\CaAt b3 b1 c n p {ab with iN:=ab.iN+1,ps:=ui ab.ps n.sl (J:Int) (D:Int) ad}/\Did own b3 w b1/\b1.heap[m]?=some (.cells ak.toArray 132 (0,0))/\b3 m=0/\b3 A=0)
     case first=>
      refine qZd (S:=fun b=>b.cell? ⟨c,18,none⟩=some (ptr p.ix)/\b.cell? ⟨m,0,none⟩=some (.int .i64 (J:Int))/\b.cell? ⟨m,1,none⟩=some (.int .i64 (D:Int))/\b.cell? ⟨m,2,none⟩=some (.bool ad)) kR (by rw[<-b0.o.2.2];exact⟨c6,z0,c7,c8⟩) (fun F=>?_);rw[<-b0.o.2.2]at F⊢;refine Wl.i [0,1,2,3,4,5,6,7,8,9,10] ?_;iterate 11 refine Wl.t F ?_
      refine Wl.o ?_;refine qYy (rs:=[11,15]) kR oe ?_;refine qxb rfl (fun H j=>?_) (qxb rfl (fun H j=>?_) qxc)
      .go_simp
       refine(q.o.2.2.2.2.2 _ (uur _ _)).mono ?_;rintro e R ⟨rfl,aC,ae,ai⟩;have X:=yP ai q.o.2.2.1 q.o.2.2.2.1;obtain⟨-,-,-,-,bn,-,-,-,-⟩:=ae.cells;have M:R.cell? ⟨c,18,none⟩=some (ptr p.ix)/\R.cell? ⟨m,0,none⟩=some (.int .i64 (J:Int))/\R.cell? ⟨m,1,none⟩=some (.int .i64 (D:Int))/\R.cell? ⟨m,2,none⟩=some (.bool ad):=by
        rw[za X.1,za X.1,za X.1,q.o.2.2.2.2.1];exact⟨bn,rfl,rfl,rfl⟩
       refine j.o _ _ M (fun _=>?_);clear j H;refine Wl.i [12,13,14] ?_;iterate 3 refine Wl.t M ?_
       refine Wl.o ?_;refine Wl.r 15 (fun H j=>?_);go_simp
       obtain⟨A,aw⟩:=qqe (R.heap.size);obtain⟨ar,au⟩:=qqe (R.alloc (.cells #[.int .i64 0,.bool false] 231));rw[<-au,<-aw];have K:=qqu au;have b4:ar.heap[A]?=some (.cells #[.int .i64 0,.bool false] 231 (0,0)):=by rw[au,aw];exact zc R _ rfl
       have c9:aC A=0:=ae.far A oM;have cb:=K.jV X.1;refine j.o _ _ ⟨K.jU M.1 id,K.jU M.2.1 id,K.jU M.2.2.1 id,K.jU M.2.2.2 id⟩ (fun _=>?_);clear j H;refine Wl.r 16 (fun H j=>?_);rw[if_pos oA];refine qZe _ _ _ rfl _ _ #[.int .i64 (-1),.bool false] rfl rfl (fun a6 hj=>by rw[za b4,zg b4,qXy];exact⟨by rw[qxe oz];rfl,rfl⟩) Yy (qYo jn) ?_;simp only[Act.put,qXd];have aD:(ar.setCells A 0 [.int .i64 (-1),.bool false]).rangeAt A 0 [.int .i64 (-1),.bool false]:=qYl _ _ _ _ (fun a6 hj=>by rw[za b4,zg b4,qXy];exact⟨by rw[qxe oz];rfl,rfl⟩);have N:=zo ar A 0 [.int .i64 (-1),.bool false];have cM:=ae.new K;have a7:=ai.trans (ae.j3 K);have an:A≠m:=fun e=>by have:=zd X.1;omega
       have bo:c≠A:=fun e=>by have:=ae.clt;omega
       have cN:=ae.nib.lt;have cO:=ae.tur.lt;have aE:=cM.kf N (fun a6 e=>by subst e;exact⟨c9,oM,oM⟩);have ao:Did aj aC am (ar.setCells A 0 [.int .i64 (-1),.bool false]):=⟨a7.upd.new N (fun i bT e=>by have:=ai.upd.size;omega),a7.old,a7.new,fun a6 hj=>a7.far a6 (by have:=N.size;omega)⟩
       have aF:=(N.block m (zd cb) (fun e=>an e.symm)).trans cb;refine j.o _ _ ⟨N.jU (K.jU M.1 id) bo,N.jU (K.jU M.2.1 id) (fun e=>an e.symm),N.jU (K.jU M.2.2.1 id) (fun e=>an e.symm),N.jU (K.jU M.2.2.2 id) (fun e=>an e.symm)⟩ (fun bp=>?_);clear j H;generalize ar.setCells A 0 [.int .i64 (-1),.bool false]=cP at*;refine Wl.i [17] ?_;iterate 1 refine Wl.t bp ?_
       refine Wl.o ?_;refine Wl.d ?_;go_wp2_with fail
       go_meet
       case rel=>exact⟨A,aC,rfl,rfl,aD,aE,q.o.2.1.trans ao,aF,X.2,c9⟩
      .go_simp
       obtain⟨A,aw⟩:=qqe (am.heap.size);obtain⟨ar,au⟩:=qqe (am.alloc (.cells #[.int .i64 0,.bool false] 231));rw[<-au,<-aw];have K:=qqu au;have cQ:ar.heap[A]?=some (.cells #[.int .i64 0,.bool false] 231 (0,0)):=by rw[au,aw];exact zc am _ rfl
       have cR:aj A=0:=q.o.1.far A oM;have cT:=K.jV q.o.2.2.1;have an:A≠m:=fun e=>by have:=zd q.o.2.2.1;omega
       have bo:c≠A:=fun e=>by have:=q.o.1.clt;omega
       have cN:=q.o.1.nib.lt;have cO:=q.o.1.tur.lt;have aZ:=q.o.2.2.2.2.2 ar K;have cU:=q.o.1.j3 K;refine j.o _ _ ⟨K.jU F.1 id,K.jU F.2.1 id,K.jU F.2.2.1 id,K.jU F.2.2.2 id⟩ (fun _=>?_);clear j H;have cc:=qqh aw;clear au aw;refine Wl.r 11 (fun H j=>?_);go_simp
       refine aZ.mono ?_;rintro e R ⟨rfl,aC,ae,ai⟩;have X:=yP ai cT q.o.2.2.2.1;have aG:=yP ai cQ cR;obtain⟨-,-,-,-,bn,-,-,-,-⟩:=ae.cells;have M:R.cell? ⟨c,18,none⟩=some (ptr p.ix)/\R.cell? ⟨m,0,none⟩=some (.int .i64 (J:Int))/\R.cell? ⟨m,1,none⟩=some (.int .i64 (D:Int))/\R.cell? ⟨m,2,none⟩=some (.bool ad):=by
        rw[za X.1,za X.1,za X.1,q.o.2.2.2.2.1];exact⟨bn,rfl,rfl,rfl⟩
       refine j.o _ _ M (fun _=>?_);clear j H;refine Wl.i [12,13,14] ?_;iterate 3 refine Wl.t M ?_
       refine Wl.o ?_;refine Wl.r 16 (fun H j=>?_);rw[if_pos oA];refine qZe _ _ _ rfl _ _ #[.int .i64 (-1),.bool false] rfl rfl (fun a6 hj=>by rw[za aG.1,zg aG.1,qXy];exact⟨by rw[qxe oz];rfl,rfl⟩) Yy (qYo jn) ?_;simp only[Act.put,qXd];have aD:(R.setCells A 0 [.int .i64 (-1),.bool false]).rangeAt A 0 [.int .i64 (-1),.bool false]:=qYl _ _ _ _ (fun a6 hj=>by rw[za aG.1,zg aG.1,qXy];exact⟨by rw[qxe oz];rfl,rfl⟩);have N:=zo R A 0 [.int .i64 (-1),.bool false];have aE:=ae.kf N (fun a6 e=>by subst e;have:=cc.o;exact⟨aG.2,oM,oM⟩);have a7:=cU.trans ai;have ao:Did aj aC am (R.setCells A 0 [.int .i64 (-1),.bool false]):=⟨a7.upd.new N (fun i bT e=>by have:=cc.o;omega),a7.old,a7.new,fun a6 hj=>a7.far a6 (by have:=N.size;omega)⟩
       have aF:=(N.block m (zd X.1) (fun e=>an e.symm)).trans X.1;refine j.o _ _ ⟨N.jU M.1 bo,N.jU M.2.1 (fun e=>an e.symm),N.jU M.2.2.1 (fun e=>an e.symm),N.jU M.2.2.2 (fun e=>an e.symm)⟩ (fun bp=>?_);clear j H;generalize R.setCells A 0 [.int .i64 (-1),.bool false]=cP at*;refine Wl.i [17] ?_;iterate 1 refine Wl.t bp ?_
       refine Wl.o ?_;refine Wl.d ?_;go_wp2_with fail
       go_meet
       case rel=>exact⟨A,aC,rfl,rfl,aD,aE,q.o.2.1.trans ao,aF,X.2,aG.2⟩
     case rest=>
      obtain⟨A,dn,rfl,rfl,aD,aE,ao,aF,cd,ce⟩:=hcut;have af:=Y5 aE ao aF cd ce;have cV:∀b:World,(binOp .neq 231 (.agg #[.int .i64 (-1),.bool false]) (.agg #[.int .i64 (-1),.bool false])).run prog b=.ok (.bool false) b:=fun b=>by rw[sE];rfl
      clear aE ao aF cd ce az z0 c7 c8 c6;go_wp2_with (first
       |(refine tw oA _ _ rfl _ _ rfl _ _ aD cJ rfl Yy ?_)
       |fail)
      have cf:=Y4 af.o.1 af.o.2.1 af.o.2.2.1 af.o.2.2.2.1;clear aD cV;replace af:=cf;clear cf;have k:=(uur (fun _=>False) wc).drew;have hx:=af.o.1.new k;have E:=k.jV af.o.2.2.1;have cW:=qqh (af.o.2.1.trans (af.o.1.j3 k));have O:(fun b:World=>b.cell? ⟨c,19,none⟩=some (ptr p.ss)/\b.cell? ⟨m,1,none⟩=some (.int .i64 (D:Int))) wc.drew:=by
        obtain⟨-,-,-,a8,aa,T,U,Y,Z⟩:=hx.cells;exact⟨T,by rw[za E,q.o.2.2.2.2.1];rfl⟩
      have cX:=qqh (xu hx (D:Int) 1);have cY:=qqh E;clear k hx E;go_wp2_with fail
      refine qZd (S:=fun b=>b.cell? ⟨c,19,none⟩=some (ptr p.ss)/\b.cell? ⟨m,1,none⟩=some (.int .i64 (D:Int))) kR O (fun F=>?_);clear O;refine Wl.i [0,1,2,3,4,5] ?_;iterate 6 refine Wl.t F ?_
      refine Wl.o ?_;refine Wl.r 6 (fun H j=>?_);go_simp
      refine cX.o.mono ?_;rintro e bq ⟨rfl,dp,br,aU⟩;have gd:=yP aU cY.o af.o.2.2.2;have Q:(fun b:World=>b.cell? ⟨c,19,none⟩=some (ptr p.ss)/\b.cell? ⟨m,1,none⟩=some (.int .i64 (D:Int))) bq:=by
        obtain⟨-,-,-,a8,aa,T,U,Y,Z⟩:=br.cells;exact⟨T,by rw[za gd.1,q.o.2.2.2.2.1];rfl⟩
      refine j.o _ _ Q (fun _=>?_);clear j H F Q;refine Wl.d ?_;have aN:=Y3 br (cW.out.trans aU) gd;clear br aU gd;have k:=(uur (fun _=>False) bq).drew;have hx:=aN.o.1.new k;have E:=k.jV aN.o.2.2.1;have cZ:=qqh (aN.o.2.1.trans (aN.o.1.j3 k));have O:(fun b:World=>b.cell? ⟨c,19,none⟩=some (ptr p.ss)/\b.cell? ⟨m,1,none⟩=some (.int .i64 (D:Int))) bq.drew:=by
        obtain⟨-,-,-,a8,aa,T,U,Y,Z⟩:=hx.cells;exact⟨T,by rw[za E,q.o.2.2.2.2.1];rfl⟩
      have d0:=qqh (xu hx (D:Int) 2);have d1:=qqh E;clear k hx E;go_wp2_with fail
      refine qZd (S:=fun b=>b.cell? ⟨c,19,none⟩=some (ptr p.ss)/\b.cell? ⟨m,1,none⟩=some (.int .i64 (D:Int))) kR O (fun F=>?_);clear O;refine Wl.i [0,1,2,3,4,5] ?_;iterate 6 refine Wl.t F ?_
      refine Wl.o ?_;refine Wl.r 6 (fun H j=>?_);go_simp
      refine d0.o.mono ?_;rintro e bs ⟨rfl,dq,bt,aK⟩;have gd:=yP aK d1.o aN.o.2.2.2;have Q:(fun b:World=>b.cell? ⟨c,19,none⟩=some (ptr p.ss)/\b.cell? ⟨m,1,none⟩=some (.int .i64 (D:Int))) bs:=by
        obtain⟨-,-,-,a8,aa,T,U,Y,Z⟩:=bt.cells;exact⟨T,by rw[za gd.1,q.o.2.2.2.2.1];rfl⟩
      refine j.o _ _ Q (fun _=>?_);clear j H F Q;refine Wl.d ?_;have aO:=Y3 bt (cZ.out.trans aK) gd;clear bt aK gd;have k:=(uur (fun _=>False) bs).drew;have hx:=aO.o.1.new k;have E:=k.jV aO.o.2.2.1;have d2:=qqh (aO.o.2.1.trans (aO.o.1.j3 k));have O:(fun b:World=>b.cell? ⟨c,20,none⟩=some (ptr p.lg)/\b.cell? ⟨m,1,none⟩=some (.int .i64 (D:Int))) bs.drew:=by
        obtain⟨-,-,-,a8,aa,T,U,Y,Z⟩:=hx.cells;exact⟨U,by rw[za E,q.o.2.2.2.2.1];rfl⟩
      have d3:=qqh (Qj hx D V.o.2.2.1);have d4:=qqh E;clear k hx E;go_wp2_with fail
      refine qZd (S:=fun b=>b.cell? ⟨c,20,none⟩=some (ptr p.lg)/\b.cell? ⟨m,1,none⟩=some (.int .i64 (D:Int))) kR O (fun F=>?_);clear O;refine Wl.i [0,1,2,3,4,5] ?_;iterate 6 refine Wl.t F ?_
      refine Wl.o ?_;refine Wl.r 6 (fun H j=>?_);go_simp
      refine d3.o.mono ?_;rintro e bu ⟨rfl,dr,bv,aL⟩;have gd:=yP aL d4.o aO.o.2.2.2;have Q:(fun b:World=>b.cell? ⟨c,20,none⟩=some (ptr p.lg)/\b.cell? ⟨m,1,none⟩=some (.int .i64 (D:Int))) bu:=by
        obtain⟨-,-,-,a8,aa,T,U,Y,Z⟩:=bv.cells;exact⟨U,by rw[za gd.1,q.o.2.2.2.2.1];rfl⟩
      refine j.o _ _ Q (fun _=>?_);clear j H F Q;refine Wl.d ?_;have aP:=Y3 bv (d2.out.trans aL) gd;clear bv aL gd;have k:=(uur (fun _=>False) bu).drew;have hx:=aP.o.1.new k;have E:=k.jV aP.o.2.2.1;have d5:=qqh (aP.o.2.1.trans (aP.o.1.j3 k));have O:(fun b:World=>b.cell? ⟨c,20,none⟩=some (ptr p.lg)/\b.cell? ⟨m,1,none⟩=some (.int .i64 (D:Int))/\b.cell? ⟨m,0,none⟩=some (.int .i64 (J:Int))) bu.drew:=by
        obtain⟨-,-,-,a8,aa,T,U,Y,Z⟩:=hx.cells;exact⟨U,by rw[za E,q.o.2.2.2.2.1];rfl,by rw[za E,q.o.2.2.2.2.1];rfl⟩
      have d6:=qqh (ZV hx D V.o.2.2.1 (J:Int) (.inr ⟨oM,by have:=V.o.2.1;omega⟩));have d7:=qqh E;clear k hx E;go_wp2_with fail
      refine qZd (S:=fun b=>b.cell? ⟨c,20,none⟩=some (ptr p.lg)/\b.cell? ⟨m,1,none⟩=some (.int .i64 (D:Int))/\b.cell? ⟨m,0,none⟩=some (.int .i64 (J:Int))) kR O (fun F=>?_);clear O;refine Wl.i [0,1,2,3,4,5,6,7] ?_;iterate 8 refine Wl.t F ?_
      refine Wl.o ?_;refine Wl.r 8 (fun H j=>?_);go_simp
      refine d6.o.mono ?_;rintro e bx ⟨rfl,ds,bz,bA⟩;have gd:=yP bA d7.o aP.o.2.2.2;have Q:(fun b:World=>b.cell? ⟨c,20,none⟩=some (ptr p.lg)/\b.cell? ⟨m,1,none⟩=some (.int .i64 (D:Int))/\b.cell? ⟨m,0,none⟩=some (.int .i64 (J:Int))) bx:=by
        obtain⟨-,-,-,a8,aa,T,U,Y,Z⟩:=bz.cells;exact⟨U,by rw[za gd.1,q.o.2.2.2.2.1];rfl,by rw[za gd.1,q.o.2.2.2.2.1];rfl⟩
      refine j.o _ _ Q (fun _=>?_);clear j H F Q;refine Wl.d ?_;have aQ:=Y3 bz (d5.out.trans bA) gd;clear bz bA gd;have k:=(uur (fun _=>False) bx).drew;have hx:=aQ.o.1.new k;have E:=k.jV aQ.o.2.2.1;have d8:=qqh (aQ.o.2.1.trans (aQ.o.1.j3 k));have O:(fun b:World=>b.cell? ⟨c,21,none⟩=some (ptr p.ck)/\b.cell? ⟨m,0,none⟩=some (.int .i64 (J:Int))) bx.drew:=by
        obtain⟨-,-,-,a8,aa,T,U,Y,Z⟩:=hx.cells;exact⟨Y,by rw[za E,q.o.2.2.2.2.1];rfl⟩
      have d9:=qqh (Tg hx (J:Int) (by have:=V.o.2.1;have:=av.o.ok.b2;unfold InR;omega) (by show ab.kN<maxLen;have h1:=V.o.2.2.2.2.2.1;have h2:=V.o.2.2.2.2.2.2.2;omega));have da:=qqh E;clear k hx E;go_wp2_with fail
      refine qZd (S:=fun b=>b.cell? ⟨c,21,none⟩=some (ptr p.ck)/\b.cell? ⟨m,0,none⟩=some (.int .i64 (J:Int))) kR O (fun F=>?_);clear O;refine Wl.i [0,1,2,3,4,5] ?_;iterate 6 refine Wl.t F ?_
      refine Wl.o ?_;refine Wl.r 6 (fun H j=>?_);go_simp
      refine d9.o.mono ?_;rintro e bB ⟨rfl,dt,bC,bD⟩;have gd:=yP bD da.o aQ.o.2.2.2;have Q:(fun b:World=>b.cell? ⟨c,21,none⟩=some (ptr p.ck)/\b.cell? ⟨m,0,none⟩=some (.int .i64 (J:Int))) bB:=by
        obtain⟨-,-,-,a8,aa,T,U,Y,Z⟩:=bC.cells;exact⟨Y,by rw[za gd.1,q.o.2.2.2.2.1];rfl⟩
      refine j.o _ _ Q (fun _=>?_);clear j H F Q;refine Wl.d ?_;have aR:=Y3 bC (d8.out.trans bD) gd;clear bC bD gd;have k:=(uur (fun _=>False) bB).drew;have hx:=aR.o.1.new k;have E:=k.jV aR.o.2.2.1;have db:=qqh (aR.o.2.1.trans (aR.o.1.j3 k));have O:(fun b:World=>b.cell? ⟨c,22,none⟩=some (.map (some p.sm))/\b.cell? ⟨m,0,none⟩=some (.int .i64 (J:Int))/\b.cell? ⟨m,3,none⟩=some (.int .i64 (aA:Int))) bB.drew:=by
        obtain⟨-,-,-,a8,aa,T,U,Y,Z⟩:=hx.cells;exact⟨Z,by rw[za E,q.o.2.2.2.2.1];rfl,by rw[za E,q.o.2.2.2.2.1];rfl⟩
      obtain⟨dc,dd,df,bE,bF⟩:=XN hx (x:=(J:Int)) oM (by have:=V.o.2.1;have:=av.o.ok.b2;omega) aA (by have:=V.o.2.2.2.1;omega) (by show ab.mN<maxLen;have h1:=V.o.2.2.2.2.2.2.1;have h2:=V.o.2.2.2.2.2.2.2;omega);have du:=qqh E;have Q:(fun b:World=>b.cell? ⟨c,22,none⟩=some (.map (some p.sm))/\b.cell? ⟨m,0,none⟩=some (.int .i64 (J:Int))/\b.cell? ⟨m,3,none⟩=some (.int .i64 (aA:Int))) dc:=by
       have gd:=yP bF E aR.o.2.2.2;obtain⟨-,-,-,a8,aa,T,U,Y,Z⟩:=bE.cells;exact⟨Z,by rw[za gd.1,q.o.2.2.2.2.1];rfl,by rw[za gd.1,q.o.2.2.2.2.1];rfl⟩
      have ch:=Y2 bE (db.out.trans bF);clear k hx E bE bF;go_wp2_with fail
      refine qZd (S:=fun b=>b.cell? ⟨c,22,none⟩=some (.map (some p.sm))/\b.cell? ⟨m,0,none⟩=some (.int .i64 (J:Int))/\b.cell? ⟨m,3,none⟩=some (.int .i64 (aA:Int))) kR O (fun F=>?_);clear O;refine Wl.i [0,1,2,3,4,5,6,7] ?_;iterate 8 refine Wl.t F ?_
      refine Wl.o ?_;refine Wl.r 8 (fun H j=>?_);go_simp
      refine j.o _ _ Q (fun _=>?_);clear j H F Q df;refine Wl.d ?_;go_wp2_with fail
      go_roundg (gk-1)
      case measure=>omega
      case rel=>exact⟨i+1,oM,by go_num,dd,by rw[V.o.1];exact ch.o.1,ch.o.2⟩
    .obtain rfl:i=L.length:=oM;have q1:¬((L.length:Int)<(L.length:Int)):=oM;rw[List.take_length]at ap;have ci:=Y2 ap aM;clear ap aM hlt;go_wp2
     go_ret
     exact⟨rfl,aj,ci.o.1,ci.o.2⟩
end
theorem VY(b sl j:Nat)(h1:1<=b)(h2:b<=12)(k:1<=sl)(q:sl<=8)(s:4<=j)(A:j<=12):(smN b sl j).Ok:=by
 have D:(sl-1)/4<=1:=oM;constructor<;>simp only[smN,CaN.size]<;>omega
end Go.Proofs.YtbnpkobbnjihjaaGreatDoor
