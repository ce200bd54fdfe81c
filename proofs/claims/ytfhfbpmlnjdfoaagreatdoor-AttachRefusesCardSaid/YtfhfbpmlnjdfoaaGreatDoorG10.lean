/- slices.Clone, -/
import Derived.Test.YtfhfbpmlnjdfoaaGreatDoorG09
import Derived.Deep.RegionLaw
import Derived.Lib.AppendZeros
set_option maxRecDepth 100000
set_option maxHeartbeats 1000000
namespace Go.Proofs.YtfhfbpmlnjdfoaaGreatDoor
open Go Go.RowKit Tryz
theorem vv:(prog.info? 3).map (fun i=>(i.zero,i.size,i.bytes))=some (some (.int .i64 0),1,8):=kR
theorem uz(l:List Int):∀u∈ints l,u.oneCell'=true:=by intro u hu;simp only[ints,qzv]at hu;obtain⟨p,_,rfl⟩:=hu;rfl
theorem yE{w:World}{v:Value}{l:List Int}(h:Rd w 1 v l.length (ints l))(hle:l.length<=4096):
  Calls prog 113 #[v] w fun e w'=>∃v',e=.returned v'/\Sl w' 3 1 v' l.length (ints l)/\From w.heap.size v'/\Below w.heap.size w w':=by
 obtain⟨i0,hi,hz0,hz1,hz2⟩:=qZa vv;have H:=qqh h;obtain⟨hl,hm,ao,c,rfl,h0,_⟩:=h;have q34:=fun(w:World) (a:Option Addr) (n c:Nat)=>Lib.run_eql_slice_nil (P:=prog) w 87 3 a n c 0 0 underlying87;cases ao with
 |none=>
  have hn:=h0 rfl;have hE:Hid (Sl w 3 1 (.slice none 0 0) l.length (ints l)):=by
   have:l=[]:=List.length_eq_zero_iff.1 hn;subst this;exact Sl.nil _ _ _
  clear h0 hl H hm;go_enter func113,ntmps113
  go_wp2
  go_ret
  exact⟨_,rfl,hE.out,From.nil _ _ _,qxl _ _⟩
 |some a=>
  clear h0 hl;have hs0:Sl (w.alloc (.cells #[] 3)) 3 1 (.slice (some ⟨w.heap.size,0,none⟩) 0 0) 0 []:=
   ⟨oe,.inr ⟨w.heap.size,0,0,#[],rfl,zc _ _ rfl,oe,by simp[maxLen],oe,oe⟩⟩
  have HR:Hid (Rd (w.alloc (.cells #[] 3)) 1 (.slice (some a) l.length c) l.length (ints l)):=H.o.keep ((uur (fun _=>False) _).alloc _) (fun _ _ h=>h);have hone:=uz l;go_enter func113,ntmps113
  go_wp2_with (at_builtin;refine zE rfl _ _ 87 rfl i0 (.int .i64 0) 8 underlying87 hi hz0 hz1 hz2 rfl de rfl hs0 _ l.length (ints l) rfl HR.o hone og oM ?_)
  intro v' w2 hs2 hu2 hb2;go_wp2
  go_ret
  refine⟨_,rfl,by simpa using hs2,?_,?_⟩
  .exact hb2.ge oe oy
  .refine zk ((qxl _ _).alloc (qXv _) _) hu2 (qXv _) ou
theorem sA(l:List Int)(i j:Nat):(l.eraseIdx i)[j]?=if j<i then l[j]? else l[j+1]?:=by
 rw[List.getElem?_eraseIdx]
theorem ZC{w:World}{v:Value}{l:List Int}(h:Sl w 3 1 v l.length (ints l))(hle:l.length<=4096){i:Nat}(hi:i<l.length):
  Calls prog 238 #[v,.int .i64 i,.int .i64 ((i:Int)+1)] w fun e w'=>∃v',e=.returned v'/\v'.ownBlock=v.ownBlock/\Sl w' 3 1 v' (l.eraseIdx i).length (ints (l.eraseIdx i))/\Upd (ownS v) w w':=by
 obtain⟨i0,hi0,hz0,hz1,hz2⟩:=qZa vv;obtain⟨hl,⟨rfl,h0⟩|⟨g,off,cap,cur,rfl,hg,hn,hm,hs,hc⟩⟩:=h
 .omega
 have hlen:(l.eraseIdx i).length=l.length-1:=List.length_eraseIdx_of_lt hi;obtain⟨news,hnews⟩:=qqe (ints (l.drop (i+1)));have hnl:news.length=l.length-(i+1):=by rw[hnews];simp
 have hg':w.drew.heap[g]?=some (.cells cur 3 (0,0)):=hg;obtain⟨A,hA,hsrc⟩:∃A:Addr,(if cap=i+1 then some (⟨g,off,none⟩:Addr)else some ⟨g,off+(i+1),none⟩)=some A/\Hid (∀t u,news[t]?=some u->w.drew.cell? (A.add t)=some u):=by
  by_cases h:cap=i+1
  .refine ⟨⟨g,off,none⟩,by simp[h],fun t u hu=>?_⟩;have h0:news.length=0:=oM;rw[List.length_eq_zero_iff.1 h0]at hu;simp at hu
  .refine ⟨⟨g,off+(i+1),none⟩,by simp[h],fun t u hu=>?_⟩;rw[qxa,za hg'];rw[hnews]at hu;have:(ints l)[i+1+t]?=some u:=by
    rw[<-hu];simp[ints,List.getElem?_drop]
   rw[show off+(i+1)+t=off+(i+1+t) by omega];exact hc _ _ this
 have s1:Hid (news.length=(l.length-(i+1))*1):=by rw[Nat.mul_one];exact hnl
 have s2:Hid (∀u∈news,u.oneCell'=true):=by rw[hnews];exact uz _
 have s3:Hid (∀t,t<news.length->(w.drew.cell? ⟨g,off+i*1+t,none⟩).isSome=true/\w.drew.frozen? ⟨g,off+i*1+t,none⟩=false):=by
  intro t ht;rw[za hg',zg hg'];refine⟨?_,rfl⟩;rw[qxe oM];rfl
 obtain⟨cur1,hb1,hz1',hget1⟩:=zC news (off+i*1) w.drew g cur 3 (0,0) hg';obtain⟨W1,hW1⟩:=qqe (w.drew.setCells g (off+i*1) news);rw[<-hW1]at hb1;have hk1:∀t,t<l.length-(i+(l.length-(i+1)))->(W1.cell? ⟨g,off+(i+(l.length-(i+1)))+t,none⟩).isSome=true:=by
  intro t ht;rw[za hb1,qxe oM];rfl
 have hcl:∀ty,(Builtin.clear_ #[87] ty #[.slice (some ⟨g,off+(i+(l.length-(i+1))),none⟩) (l.length-(i+(l.length-(i+1)))) (cap-(i+(l.length-(i+1))))]).run prog W1=.ok (.tuple #[]) (W1.setCells g (off+(i+(l.length-(i+1)))) (List.replicate (l.length-(i+(l.length-(i+1)))) (.int .i64 0))):=
  fun ty=>Lib.run_clear_slice W1 _ 3 ty (.int .i64 0) underlying87 (fun w=>Tryz.zeroValue3 w) rfl rfl g (off+(i+(l.length-(i+1)))) _ _ oM hk1 (fun t _=>zg hb1 _)
 obtain⟨cur2,hb2,hz2',hget2⟩:=zC (List.replicate (l.length-(i+(l.length-(i+1)))) (Value.int .i64 0)) (off+(i+(l.length-(i+1)))) W1 g cur1 3 (0,0) hb1;have hU:Upd (ownS (.slice (some ⟨g,off,none⟩) l.length cap)) w (W1.setCells g (off+(i+(l.length-(i+1)))) (List.replicate (l.length-(i+(l.length-(i+1)))) (.int .i64 0))):=by
  refine Upd.trans (b:=W1) ?_ (yq _ _ _ _ _ rfl);rw[hW1];exact((uur _ w).drew).trans (yq _ _ _ _ _ rfl)
 have hend:Sl (W1.setCells g (off+(i+(l.length-(i+1)))) (List.replicate (l.length-(i+(l.length-(i+1)))) (.int .i64 0))) 3 1 (.slice (some ⟨g,off,none⟩) (i+(l.length-(i+1))) cap) (l.eraseIdx i).length (ints (l.eraseIdx i)):=by
  refine⟨oe,.inr ⟨g,off,cap,cur2,by rw[hlen,show i+(l.length-(i+1))=l.length-1 by omega],hb2,oM,hm,oM,fun j u hu=>?_⟩⟩;have hj:=(qyp.1 hu).1;rw[xi,hlen]at hj;rw[hget2,if_neg oM,hget1];simp only[ints,qyq,sA]at hu;by_cases hji:j<i
  .rw [if_neg oM];rw[if_pos hji]at hu;exact hc j u (by simpa[ints]using hu)
  .rw [if_neg hji]at hu;rw[if_pos ⟨oM,oM,oM⟩,hnews,show off+j-(off+i*1)=j-i by omega];simp only[ints,qyq,qym];rw[show i+1+(j-i)=j+1 by omega];exact hu
 have HU:=qqh hU;have HE:=qqh hend;have hW:Hid (W1=w.drew.setCells g (off+i*1) news):=hW1;have hic:i<=cap:=oM;have hjc:i+1<=cap:=oM;have hj0:(0:Int)<=(i:Int)+1:=oM;have hj1:(i:Int)+1<=(l.length:Int):=oM;have hj2:0<=(i:Int)+1/\(i:Int)+1<=(l.length:Int):=⟨hj0,hj1⟩
 have hb:((i:Int)==(i:Int)+1)=false:=by simp;omega
 clear hk1 hU hend hget2 hget1 hb2 hb1 hW1 hc hg hg' hnews hnl hs;go_enter func238,ntmps238
 go_wp2_with fail
 go_region_law (refine step_append_room rfl (.tmp 22) (.tmp 25) 87 rfl 3 i0 1 underlying87 hi0 hz1 g off i cap (by simp[Act.eval,Act.put]) A (l.length-(i+1)) (cap-(i+1)) news (by simp[Act.eval,Act.put]) s1.out hsrc.out s2.out oM s3.out ?_;rw[<-hW.out])
 go_wp2
 go_ret
 exact⟨_,rfl,rfl,HE.o,HU.o⟩
theorem QP(n:Nat)(hn:n<=4096)(w:World):
  Calls prog 303 #[.slice none 0 0,.int .i64 n] w fun e w'=>∃v',e=.returned v'/\Sl w' 3 1 v' 0 []/\From w.heap.size v'/\Below w.heap.size w w':=by
 obtain⟨i0,hi0,hz0,hz1,hz2⟩:=qZa vv;by_cases h0:n=0
 .subst h0;go_enter func303,ntmps303
  go_wp2
  go_ret
  exact⟨_,rfl,Sl.nil _ _ _,From.nil _ _ _,qxl _ _⟩
 .have h63:(n:Int)<=9223372036854775807:=oM;have hrun:=Lib.run_append_nil_zeros (P:=prog) w 87 3 87 3 i0 (.int .i64 0) .i64 .i64 underlying87 underlying3 hi0 hz0 n oM oM h63 jH;have hge:=grownCap_ge w n 0 3;have hle:=grownCap_le_maxLen w n 0 3 og;generalize grownCap w n 0 3=cap at hrun hge hle;obtain⟨C,hC⟩:=qqe (Builtin.zeroCells (Value.int .i64 0).cells n++Builtin.zeroCells (Value.int .i64 0).cells (cap-n));have hsz:C.size=cap:=by
   rw[hC];simp[Builtin.zeroCells,Value.cells];omega
  rw[<-hC]at hrun;have hp:(0:Int)<(n:Int):=oM;have hcap:(cap:Int)<=9223372036854775807:=by unfold maxLen at hle;omega
  have HS:=qqh hsz;have HL:=qqh hle;clear hC hsz hle;go_enter func303,ntmps303
  go_wp2_with (at_builtin;refine Lib.wpList_append_run _ rfl _ _ _ _ rfl _ _ rfl rfl _ _ hrun ?_)
  go_wp2
  go_ret
  refine⟨_,rfl,⟨rfl,.inr ⟨w.heap.size,0,cap,C,rfl,zc _ _ rfl,oM,HL.o,by rw[HS.o];omega,oe⟩⟩,?_,?_⟩
  .intro g hg;simp[Value.ownBlock]at hg;omega
  .exact (qxl _ w).trans (Upd.below (((uur _ w).drew).alloc _))
theorem WE{w:World}{gs:Nat}{va vb:Value}{fz:Nat×Nat}{la lb:List Int}(hgs:w.heap[gs]?=some (.cells #[va,vb] 87 fz))
  (ha:Rd w 1 va la.length (ints la)) (hb:Rd w 1 vb lb.length (ints lb)) (hle:la.length+lb.length<=4096):
  Calls prog 237 #[.slice (some ⟨gs,0,none⟩) 2 2] w fun e w'=>∃v',e=.returned v'/\Sl w' 3 1 v' (la.length+lb.length) (ints la++ints lb)/\From w.heap.size v'/\Below w.heap.size w w':=by
 obtain⟨i0,hi0,hz0,hz1,hz2⟩:=qZa vv;have HA:=qqh ha;have HB:=qqh hb;have HG:=qqh hgs;obtain⟨aoa,ca,rfl⟩:=ha.j7;obtain⟨aob,cb,rfl⟩:=hb.j7;have g0:=za hgs 0;have g1:=za hgs 1;simp at g0 g1;have G:=Y2 g0 g1;clear ha hb hgs g0 g1;go_enter func237,ntmps237
 go_wp2
 go_loopg[3,11] 2 (fun g sz i wr=>∃j:Nat,j+g=2/\i=.int .i64 j/\sz=.int .i64 ((if j=0 then 0 else if j=1 then la.length else la.length+lb.length:Nat):Int)/\wr=w)
 case atStart=>exact⟨0,rfl,rfl,rfl,rfl⟩
 case round=>
  obtain⟨j,hj,rfl,rfl,rfl⟩:=hrel;obtain⟨g0,g1⟩:=G.out;rcases(by omega:j=0\/j=1\/j=2)with rfl|rfl|rfl
  .simp only[if_true];have q:decide (((0:Nat):Int)+(la.length:Int)<0)=false:=by simp only[qYx];omega
   go_wp2
   go_roundg 1
   case measure=>omega
   case rel=>exact⟨1,rfl,rfl,oe,rfl⟩
  .have e1:(if(1:Nat)=0 then 0 else if(1:Nat)=1 then la.length else la.length+lb.length)=la.length:=rfl;rw[e1];clear e1;have q:decide ((la.length:Int)+(lb.length:Int)<0)=false:=by simp only[qYx];omega
   go_wp2
   go_roundg 0
   case measure=>omega
   case rel=>exact⟨2,rfl,rfl,oe,rfl⟩
  .have e1:(if(2:Nat)=0 then 0 else if(2:Nat)=1 then la.length else la.length+lb.length)=la.length+lb.length:=rfl;rw[e1];clear e1;go_wp2_with fail
   refine(QP (la.length+lb.length) hle _).mono ?_;rintro e w1 ⟨v1,rfl,hs1,hf1,hb1⟩;have S1:=Y3 hs1 hf1 hb1;clear hs1 hf1 hb1;obtain⟨wb,rfl⟩:∃wb:World,wb=wr:=⟨_,rfl⟩
   obtain⟨go,hgo⟩:∃x,x=gk:=⟨_,rfl⟩
   clear hgo hj;go_wp2
   go_loopg[6,27] 2 (fun g v i wr=>∃j:Nat,j+g=2/\i=.int .i64 j/\∃ls:List Int,ls=(if j=0 then[]else if j=1 then la else la++lb)/\Sl wr 3 1 v ls.length (ints ls)/\From wb.heap.size v/\Below wb.heap.size wb wr)
   case atStart=>exact⟨0,rfl,rfl,[],rfl,S1.out.1,S1.out.2.1,S1.out.2.2⟩
   case round=>
    obtain⟨j,hj,rfl,ls,rfl,hs,hf,hb⟩:=hrel;have S2:=Y3 hs hf hb;have hblt:gs<wb.heap.size:=zf HG.o;have g0:=(hb.cell (p:=⟨gs,0,none⟩) hblt).trans G.out.1;have g1:=(hb.cell (p:=⟨gs,1,none⟩) hblt).trans G.out.2;clear hs hf hb;rcases(by omega:j=0\/j=1\/j=2)with rfl|rfl|rfl
    .have H1:Hid (Sl wr 3 1 u6 ([]:List Int).length (ints [])):=S2.out.1;go_wp2_with (at_builtin;refine zE rfl _ _ 87 rfl i0 (.int .i64 0) 8 underlying87 hi0 hz0 hz1 hz2 rfl de rfl H1.o _ la.length (ints la) rfl (HA.o.below S2.out.2.2) (uz _) (by unfold maxLen;simp;omega) oh ?_)
     intro v2 w2 hs2 hu2 hb2;go_wp2
     go_roundg 1
     case measure=>omega
     case rel=>exact⟨1,rfl,rfl,la,rfl,by simpa using hs2,hb2.ge S2.out.2.2.size S2.out.2.1,zk S2.out.2.2 hu2 (qXv _) S2.out.2.1.own⟩
    .have H1:Hid (Sl wr 3 1 u6 la.length (ints la)):=S2.out.1;go_wp2_with (at_builtin;refine zE rfl _ _ 87 rfl i0 (.int .i64 0) 8 underlying87 hi0 hz0 hz1 hz2 rfl de rfl H1.o _ lb.length (ints lb) rfl (HB.o.below S2.out.2.2) (uz _) og oM ?_)
     intro v2 w2 hs2 hu2 hb2;go_wp2
     go_roundg 0
     case measure=>omega
     case rel=>exact⟨2,rfl,rfl,la++lb,rfl,by simpa using hs2,hb2.ge S2.out.2.2.size S2.out.2.1,zk S2.out.2.2 hu2 (qXv _) S2.out.2.1.own⟩
    .go_wp2
     go_ret
     exact⟨_,rfl,by simpa using S2.out.1,S2.out.2.1,S2.out.2.2⟩
structure CkGood(most few:Nat)(K:List Int)(A:Int->Bool)(G:List Int):Prop where
 kr:∀x∈K,InR x
 gr:∀x∈G,InR x
 kd:K.Nodup
 gd:G.Nodup
 dis:∀x∈K,x∉G
 ask:∀x,A x=true->x∈K
 kl:K.length<=most
 gl:G.length<=few
 ml:most<=1024
 fl:few<=1024
 m1:1<=most
structure CkMem(w:World)(b mb N:Nat)(vk vg:Value)(most few:Nat)(K:List Int)(A:Int->Bool)(G:List Int):Prop where
 str:w.heap[b]?=some (.cells #[.int .i64 most,.int .i64 few,vk,.map (some mb),vg] 333 (0,0))
 ks:Sl w 3 1 vk K.length (ints K)
 gs:Sl w 3 1 vg G.length (ints G)
 set:SetAt w mb N A
 kb:vk.ownBlock≠some b
 gb:vg.ownBlock≠some b
 km:vk.ownBlock≠some mb
 gm:vg.ownBlock≠some mb
 bm:mb≠b
 kg:Dis vk vg
structure CkAt(w:World)(b mb N:Nat)(vk vg:Value)(most few:Nat)(K:List Int)(A:Int->Bool)(G:List Int):Prop extends CkMem w b mb N vk vg most few K A G where
 good:CkGood most few K A G
def QQ(b mb:Nat)(vk vg:Value):Nat->Prop:=fun j=>j=b\/j=mb\/vk.ownBlock=some j\/vg.ownBlock=some j
section
variable{w w':World}{b mb N most few:Nat}{vk vg:Value}{K G:List Int}{A:Int->Bool}
theorem CkMem.keep(h:CkMem w b mb N vk vg most few K A G){S:Nat->Prop}(hu:Upd S w w')(hs:∀j,QQ b mb vk vg j->¬S j):CkMem w' b mb N vk vg most few K A G:=
 {h with
  str:=(hu.block _ (zf h.str) (hs b (.inl rfl))).trans h.str
  ks:=h.ks.keep hu (fun g hg=>hs g (.inr (.inr (.inl hg))))
  gs:=h.gs.keep hu (fun g hg=>hs g (.inr (.inr (.inr hg))))
  set:=SetAt.keep h.set hu (hs mb (.inr (.inl rfl)))}
theorem CkMem.below(h:CkMem w b mb N vk vg most few K A G)(hb:Below w.heap.size w w'):CkMem w' b mb N vk vg most few K A G:=
 h.keep (uuo (S:=fun _=>False) hb) (fun _ _ h=>h)
theorem CkAt.keep(h:CkAt w b mb N vk vg most few K A G){S:Nat->Prop}(hu:Upd S w w')(hs:∀j,QQ b mb vk vg j->¬S j):CkAt w' b mb N vk vg most few K A G:=
 {h with
  str:=(hu.block _ (zf h.str) (hs b (.inl rfl))).trans h.str
  ks:=h.ks.keep hu (fun g hg=>hs g (.inr (.inr (.inl hg))))
  gs:=h.gs.keep hu (fun g hg=>hs g (.inr (.inr (.inr hg))))
  set:=SetAt.keep h.set hu (hs mb (.inr (.inl rfl)))}
theorem CkAt.below(h:CkAt w b mb N vk vg most few K A G)(hb:Below w.heap.size w w'):CkAt w' b mb N vk vg most few K A G:=
 h.keep (uuo (S:=fun _=>False) hb) (fun _ _ h=>h)
theorem CkAt.mono(h:CkAt w b mb N vk vg most few K A G){N':Nat}(hn:N<=N'):CkAt w b mb N' vk vg most few K A G:={h with set:=h.set.mono hn}
theorem CkAt.blt(h:CkAt w b mb N vk vg most few K A G):b<w.heap.size:=zf h.str
theorem CkAt.slt(h:CkAt w b mb N vk vg most few K A G):∀j,QQ b mb vk vg j->j<w.heap.size:=by
 rintro j (rfl|rfl|hj|hj)
 .exact h.blt
 .exact h.set.lt
 .exact h.ks.lt hj
 .exact h.gs.lt hj
theorem CkAt.kle(h:CkAt w b mb N vk vg most few K A G):K.length<=1024:=qXx h.good.kl h.good.ml
theorem CkAt.gle(h:CkAt w b mb N vk vg most few K A G):G.length<=1024:=qXx h.good.gl h.good.fl
end
theorem CkGood.start{m f:Nat}(h1:1<=m)(h2:m<=1024)(h3:f<=1024):CkGood m f [] (fun _=>false) []:=
 {kr:=oe,gr:=oe,kd:=oe,gd:=oe,dis:=oe,ask:=oe,kl:=oe,gl:=oe,ml:=h2,fl:=h3,m1:=h1}
theorem ZD{l:List Int}{k:Int}(h:k∈l):∃i:Nat,∃hi:i<l.length,idxI l k=i/\l[i]=k/\∀j (hj:j<l.length),j<i->l[j]≠k:=by
 unfold idxI;cases hf:l.findIdx? (·==k)with
 |none=>
  rw[List.findIdx?_eq_none_iff]at hf;have:=hf k h;simp at this
 |some i=>
  rw[List.findIdx?_eq_some_iff_getElem]at hf;obtain⟨hi,he,hb⟩:=hf;exact⟨i,hi,rfl,by simpa using he,fun j _ hji=>by simpa using hb j hji⟩
theorem uA{l:List Int}{k:Int}(h:k∉l):idxI l k= -1:=sV (fun _ hj e=>h (e▸qyz hj))
theorem JB(m f:Nat)(w:World)(h1:1<=m)(h2:m<=1024)(h3:f<=1024):
  Calls prog 135 #[.int .i64 m,.int .i64 f] w fun e w'=>∃b mb,e=.returned (.tuple #[.pointer (some ⟨b,0,none⟩),.int .i64 0])/\
   CkAt w' b mb 0 (.slice none 0 0) (.slice none 0 0) m f [] (fun _=>false) []/\w.heap.size<=b/\w.heap.size<=mb/\Below w.heap.size w w':=by
 have hmm:= @run_makeMap prog;have q1:¬((m:Int)<1):=oM;have q2:¬((1024:Int)<m):=oM;have q3:¬((f:Int)<0):=oM;have q4:¬((1024:Int)<f):=oM;have HM:=Y3 h1 h2 h3;clear h1 h2 h3;go_enter func135,ntmps135
 go_wp2
 go_ret2
 have hU:=Upd.alloc (uur (fun _=>False) w) (.map #[] 0);have hz:(w.alloc (.map #[] 0)).heap.size=w.heap.size+1:=oe;refine⟨w.heap.size+1,rfl,w.heap.size,⟨⟨zc _ _ hz.symm,Sl.nil _ _ _,Sl.nil _ _ _,(SetAt.made w).keep (Upd.alloc (uur (fun _=>False) _) _) id,by simp[Value.ownBlock],by simp[Value.ownBlock],by simp[Value.ownBlock],by simp[Value.ownBlock],oM,Dis.nil _ _ _⟩,CkGood.start HM.o.1 HM.o.2.1 HM.o.2.2⟩,oM,qXv _,(hU.alloc _).below⟩
def touchC(K:List Int)(k:Int):Int:=if k∈K then 0 else 14
theorem CkGood.touch{most few:Nat}{K G:List Int}{A:Int->Bool}(h:CkGood most few K A G){k:Int}(hk:k∈K):CkGood most few K (updB A k true) G:=by
 have ha:∀x,updB A k true x=true->x∈K:=by
  intro x hx;by_cases e:x=k
  .exact e▸hk
  .simp only[updB,if_neg e]at hx;exact h.ask x hx
 exact{h with ask:=ha}
theorem WF{w:World}{b mb N most few:Nat}{vk vg:Value}{K G:List Int}{A:Int->Bool}(h:CkAt w b mb N vk vg most few K A G)(k:Int)(hN:N<maxLen):
  Calls prog 325 #[.pointer (some ⟨b,0,none⟩),.int .i64 k] w fun e w'=>e=.returned (.int .i64 (touchC K k))/\
   CkAt w' b mb (N+1) vk vg most few K (if k∈K then updB A k true else A) G/\Upd (fun j=>j=mb) w w':=by
 have H:=qqh h;have HR:=qqh h.ks.rd;have hle:=h.kle;have g2:=za h.str 2;have g3:=za h.str 3;simp at g2 g3;have hblt:=h.blt;by_cases hk:k∈K
 .obtain ⟨i,hi,hix,_⟩:=ZD hk;obtain⟨ao,c,rfl⟩:=h.ks.rd.j7;have e1:touchC K k=0:=if_pos hk;rw[e1,if_pos hk];have HK:=qqh hk;clear h e1 hk;have q:decide ((i:Int)<0)=false:=by simp only[qYx];omega
  go_enter func325,ntmps325
  go_wp2_with fail
  refine(xk HR.o oM k).mono ?_;rintro e w1 ⟨rfl,hb1⟩;rw[hix];have H1:=qqh (H.o.below hb1);have k3:=(hb1.cell (p:=⟨b,3,none⟩) hblt).trans g3;obtain⟨w2,hrun,hs2,hu2,hz2⟩:=SetAt.store H1.o.set (x:=k) (H.o.good.kr k HK.o) hN;have S2:=Y3 hs2 hu2 hz2;have B1:=qqh hb1;clear hs2 hu2 hz2 hb1;go_wp2
  go_ret
  refine⟨rfl,?_,(uuo B1.out).trans (S2.out.2.1)⟩;exact{H1.o with
   str:=(S2.out.2.1.block b H1.o.blt H1.o.bm.symm).trans H1.o.str
   ks:=H1.o.ks.keep S2.out.2.1 (fun g hg e=>H1.o.km (by rw[hg,e]))
   gs:=H1.o.gs.keep S2.out.2.1 (fun g hg e=>H1.o.gm (by rw[hg,e]))
   set:=S2.out.1
   good:=H1.o.good.touch HK.o}
 .have hix:=uA hk;obtain⟨ao,c,rfl⟩:=h.ks.rd.j7;have e1:touchC K k=14:=if_neg hk;rw[e1,if_neg hk];clear h e1 hk;go_enter func325,ntmps325
  go_wp2_with fail
  refine(xk HR.o oM k).mono ?_;rintro e w1 ⟨rfl,hb1⟩;rw[hix];go_wp2
  go_ret
  exact⟨rfl,(H.o.below hb1).mono oM,uuo hb1⟩
section
variable{w w' w2:World}{b mb N most few:Nat}{vk vg v2:Value}{K G K' G':List Int}{A A':Int->Bool}
theorem CkMem.c(h:CkMem w b mb N vk vg most few K A G):w.cell? ⟨b,0,none⟩=some (.int .i64 most)/\w.cell? ⟨b,1,none⟩=some (.int .i64 few)/\w.cell? ⟨b,2,none⟩=some vk/\
  w.cell? ⟨b,3,none⟩=some (.map (some mb))/\w.cell? ⟨b,4,none⟩=some vg:=by
 refine⟨?_,?_,?_,?_,?_⟩<;>rw[za h.str]<;>rfl
theorem CkMem.fz(h:CkMem w b mb N vk vg most few K A G)(i:Nat):w.frozen? ⟨b,i,none⟩=false:=zg h.str i
theorem uB{w:World}{v v':Value}{x:Nat}(h:blockFrom w v v')(hv:v.ownBlock≠some x)(hx:x<w.heap.size):v'.ownBlock≠some x:=by
 intro e;rcases h with h|⟨g,h,hg⟩
 .exact hv (by rw[<-h,e])
 .rw [h]at e;cases e;omega
theorem CkMem.setKeys(h:CkMem w b mb N vk vg most few K A G)(hu:Upd (ownS vk) w w2)(h2:Sl w2 3 1 v2 K'.length (ints K'))(hbf:blockFrom w vk v2):
  CkMem (w2.setCell ⟨b,2,none⟩ v2) b mb N v2 vg most few K' A G:=by
 have hb2:v2.ownBlock≠some b:=uB hbf h.kb (zf h.str);have hm2:v2.ownBlock≠some mb:=uB hbf h.km h.set.lt;have hstr:w2.heap[b]?=_:=(hu.block b (zf h.str) (fun e=>h.kb e)).trans h.str;exact{
  str:=zi hstr 2 v2
  ks:=h2.kQ (zj _ _ _ _) hb2
  gs:=(h.gs.kS h.kg.symm hu).kQ (zj _ _ _ _) h.gb
  set:=(h.set.keep hu (fun e=>h.km e)).keep (zj _ _ _ _) h.bm
  kb:=hb2
  gb:=h.gb
  km:=hm2
  gm:=h.gm
  bm:=h.bm
  kg:=h.kg.from hbf (fun g hg=>h.gs.lt hg)}
theorem CkMem.updKeys(_:CkMem w b mb N vk vg most few K A G)(hu:Upd (ownS vk) w w2):Upd (QQ b mb vk vg) w (w2.setCell ⟨b,2,none⟩ v2):=
 (hu.mono (fun _k _ hk=> .inr (.inr (.inl hk)))).trans (Upd.mono (zj _ _ _ _) (fun _k _ hk=> .inl hk))
theorem CkMem.setGhosts(h:CkMem w b mb N vk vg most few K A G)(hu:Upd (ownS vg) w w2)(h2:Sl w2 3 1 v2 G'.length (ints G'))(hbf:blockFrom w vg v2):
  CkMem (w2.setCell ⟨b,4,none⟩ v2) b mb N vk v2 most few K A G':=by
 have hb2:v2.ownBlock≠some b:=uB hbf h.gb (zf h.str);have hm2:v2.ownBlock≠some mb:=uB hbf h.gm h.set.lt;have hstr:w2.heap[b]?=_:=(hu.block b (zf h.str) (fun e=>h.gb e)).trans h.str;exact{
  str:=zi hstr 4 v2
  ks:=(h.ks.kS h.kg hu).kQ (zj _ _ _ _) h.kb
  gs:=h2.kQ (zj _ _ _ _) hb2
  set:=(h.set.keep hu (fun e=>h.gm e)).keep (zj _ _ _ _) h.bm
  kb:=h.kb
  gb:=hb2
  km:=h.km
  gm:=hm2
  bm:=h.bm
  kg:=(h.kg.symm.from hbf (fun g hg=>h.ks.lt hg)).symm}
theorem CkMem.updGhosts(_:CkMem w b mb N vk vg most few K A G)(hu:Upd (ownS vg) w w2):Upd (QQ b mb vk vg) w (w2.setCell ⟨b,4,none⟩ v2):=
 (hu.mono (fun _k _ hk=> .inr (.inr (.inr hk)))).trans (Upd.mono (zj _ _ _ _) (fun _k _ hk=> .inl hk))
theorem CkMem.setAsked(h:CkMem w b mb N vk vg most few K A G){N':Nat}(hu:Upd (fun j=>j=mb) w w2)(h2:SetAt w2 mb N' A'):CkMem w2 b mb N' vk vg most few K A' G:=
 {h with
  str:=(hu.block b (zf h.str) h.bm.symm).trans h.str
  ks:=h.ks.keep hu (fun g hg e=>h.km (by rw[hg,e]))
  gs:=h.gs.keep hu (fun g hg e=>h.gm (by rw[hg,e]))
  set:=h2}
end
def Ck(S:Nat->Prop)(w:World)(b N most few:Nat)(K:List Int)(A:Int->Bool)(G:List Int):Prop:=
 ∃mb vk vg,CkAt w b mb N vk vg most few K A G/\∀j,QQ b mb vk vg j->S j
section
variable{S:Nat->Prop}{w w' w2:World}{b N most few:Nat}{K G:List Int}{A:Int->Bool}
theorem Ck.keep(h:Ck S w b N most few K A G){T:Nat->Prop}(hu:Upd T w w')(hs:∀j,S j->¬T j):Ck S w' b N most few K A G:=by
 obtain⟨mb,vk,vg,h,hS⟩:=h;exact⟨mb,vk,vg,h.keep hu (fun j hj=>hs j (hS j hj)),hS⟩
theorem Ck.new(h:Ck S w b N most few K A G)(hu:Upd (fun _=>False) w w'):Ck S w' b N most few K A G:=h.keep hu (fun _ _ h=>h)
theorem Ck.below(h:Ck S w b N most few K A G)(hb:Below w.heap.size w w'):Ck S w' b N most few K A G:=h.new (uuo hb)
theorem Ck.mono(h:Ck S w b N most few K A G){N':Nat}(hn:N<=N'):Ck S w b N' most few K A G:=by
 obtain⟨mb,vk,vg,h,hS⟩:=h;exact⟨mb,vk,vg,h.mono hn,hS⟩
theorem Ck.out(h:Ck S w b N most few K A G){S':Nat->Prop}(hs:∀j,j<w.heap.size->S j->S' j):Ck S' w b N most few K A G:=by
 obtain⟨mb,vk,vg,h,hS⟩:=h;exact⟨mb,vk,vg,h,fun j hj=>hs j (h.slt j hj) (hS j hj)⟩
end
theorem tO{l:List Int}{k:Int}{i:Nat}(hi:i<l.length)(he:l[i]=k)(hb:∀j (h:j<l.length),j<i->l[j]≠k):l.eraseIdx i=l.erase k:=by
 induction l generalizing i with
 |nil=>simp at hi
 |cons x l ih=>
  cases i with
  |zero=>
   have he':x=k:=he;subst he';simp
  |succ i=>
   have hx:x≠k:=hb 0 oe oM;rw[List.eraseIdx_cons_succ,List.erase_cons_tail (by simpa using hx),ih ox (by simpa using he) (fun j hj hji=>hb (j+1) ow oM)]
def addC(most:Nat)(K:List Int)(k:Int):Int:=if k∈K then 15 else if K.length=most then 17 else 0
def sB(most:Nat)(K:List Int)(k:Int):List Int:=if k∈K\/K.length=most then K else K++[k]
def agA(A:Int->Bool)(G:List Int)(k:Int):Int->Bool:=if k∈G then updB A k true else A
def Ta(most:Nat)(K:List Int)(A:Int->Bool)(G:List Int)(k:Int):Int->Bool:=if k∈K\/K.length=most then A else agA A G k
def Tb(most:Nat)(K:List Int)(G:List Int)(k:Int):List Int:=if k∈K\/K.length=most then G else G.erase k
section
variable{most few:Nat}{K G:List Int}{A:Int->Bool}
theorem CkGood.push(h:CkGood most few K A G){k:Int}(hk:k∉K)(hl:K.length≠most)(hG:k∉G)(hr:InR k):CkGood most few (K++[k]) A G:={
 kr:=by intro x hx;rcases qzq.1 hx with h1|h1;exact h.kr x h1;simp at h1;exact h1▸hr
 gr:=h.gr
 kd:=by rw[qXa];exact⟨h.kd,oe,by intro x hx y hy e;simp at hy;subst hy;exact hk (e▸hx)⟩
 gd:=h.gd
 dis:=by intro x hx;rcases qzq.1 hx with h1|h1;exact h.dis x h1;simp at h1;exact h1▸hG
 ask:=fun x hx=>qzq.2 (.inl (h.ask x hx))
 kl:=by have:=h.kl;simp;omega
 gl:=h.gl
 ml:=h.ml
 fl:=h.fl
 m1:=h.m1}
theorem CkGood.drop(h:CkGood most few K A G)(k:Int):CkGood most few (K.erase k) (updB A k false) G:={
 kr:=fun x hx=>h.kr x (qzw hx)
 gr:=h.gr
 kd:=h.kd.erase k
 gd:=h.gd
 dis:=fun x hx=>h.dis x (qzw hx)
 ask:=fun x hx=>by
  by_cases e:x=k
  .subst e;simp[updB]at hx
  .simp only[updB,if_neg e]at hx;exact(List.mem_erase_of_ne e).2 (h.ask x hx)
 kl:=qXx (List.length_erase_le) h.kl
 gl:=h.gl
 ml:=h.ml
 fl:=h.fl
 m1:=h.m1}
theorem CkGood.erase(h:CkGood most few K A G)(k:Int):CkGood most few K A (G.erase k):={h with
 gr:=fun x hx=>h.gr x (qzw hx)
 gd:=h.gd.erase k
 dis:=fun x hx hg=>h.dis x hx (qzw hg)
 gl:=qXx (List.length_erase_le) h.gl}
end
theorem JC{S:Nat->Prop}{w:World}{b N most few:Nat}{K G:List Int}{A:Int->Bool}(h:Ck S w b N most few K A G)(k:Int)(hk:k∈K\/K.length=most):
  Calls prog 205 #[.pointer (some ⟨b,0,none⟩),.int .i64 k] w fun e w'=>e=.returned (.int .i64 (addC most K k))/\Below w.heap.size w w':=by
 obtain⟨mb,vk,vg,h,-⟩:=h;have HR:=qqh h.ks.rd;have hle:=h.kle;have hblt:=h.blt;obtain⟨g0,-,g2,-,-⟩:=h.c;obtain⟨ao,c,rfl⟩:=h.ks.rd.j7;clear h;by_cases hkK:k∈K
 .obtain ⟨i,hi,hix,_⟩:=ZD hkK;have e1:addC most K k=15:=if_pos hkK;rw[e1];clear e1 hk hkK g0;go_enter func205,ntmps205
  go_wp2_with fail
  refine(xk HR.o oM k).mono ?_;rintro e w1 ⟨rfl,hb1⟩;rw[hix];go_wp2
  go_ret
  exact⟨rfl,hb1⟩
 .have hm:K.length=most:=hk.resolve_left hkK;have hix:=uA hkK;have e1:addC most K k=17:=by unfold addC;rw[if_neg hkK,if_pos hm]
  rw[e1];have q:((K.length:Int)==(most:Int))=true:=by simp;omega
  clear e1 hk hkK hm;go_enter func205,ntmps205
  go_wp2_with fail
  refine(xk HR.o oM k).mono ?_;rintro e w1 ⟨rfl,hb1⟩;rw[hix];have k0:=(hb1.cell (p:=⟨b,0,none⟩) hblt).trans g0;have k2:=(hb1.cell (p:=⟨b,2,none⟩) hblt).trans g2;go_wp2
  go_quiet(fail)
  go_wp2
  go_ret
  exact⟨rfl,zR hb1 _⟩
theorem QR{S:Nat->Prop}{w:World}{b N most few:Nat}{K G:List Int}{A:Int->Bool}(h:Ck S w b N most few K A G)(hn:∀j,w.heap.size<=j->S j)(k:Int)(hr:InR k)(hN:N<maxLen)(hk:k∉K)(hl:K.length≠most):
  Calls prog 205 #[.pointer (some ⟨b,0,none⟩),.int .i64 k] w fun e w'=>e=.returned (.int .i64 0)/\
   Ck S w' b (N+1) most few (K++[k]) (agA A G k) (G.erase k)/\Upd S w w':=by
 obtain⟨i0,hi0,hz0,hz1,hz2⟩:=qZa vv;obtain⟨mb,vk,vg,h,hS⟩:=h;have HN:=qqh hn;have HS:=qqh hS;have HR:=qqh h.ks.rd;have hle:=h.kle;have hgle:=h.gle;have hix:=uA hk;have HH:=qqh h;have HK:=Y2 hk hl;obtain⟨g0,-,g2,-,-⟩:=h.c;have q:((K.length:Int)==(most:Int))=false:=by simp;omega
 clear h hk hn hS hl;go_enter func205,ntmps205
 go_wp2_with fail
 refine(xk HR.o oM k).mono ?_;rintro e w1 ⟨rfl,hb1⟩;rw[hix];have H1:=HH.o.below hb1;have HU1:=qqh (uuo (S:=S) hb1);clear g0 g2 HR;obtain⟨g0,-,g2,-,-⟩:=H1.c;obtain⟨ao,c,hvk⟩:=H1.ks.rd.j7;have HV:=qqh hvk;rw[hvk]at g2;have H1:=qqh H1;clear hvk hb1 HH;go_wp2
 go_quiet(fail)
 generalize hw2:w1.drewN nq=w2;have hu2:Upd (fun _=>False) w1 w2:=by rw[<-hw2];exact(uur _ _).drewN nq
 have H2:=H1.o.keep hu2 (fun _ _ h=>h);have HU2:=qqh (HU1.o.trans (hu2.mono fE));clear hw2 hu2 g0 g2;obtain⟨-,-,g2,-,-⟩:=H2.c;have H2:=qqh H2;go_wp2_with (at_builtin;refine zT rfl _ _ 87 rfl i0 (.int .i64 0) 8 underlying87 hi0 hz0 hz1 hz2 rfl de rfl H2.o.ks [.int .i64 k] rfl rfl (by intro u hu;simp at hu;subst hu;rfl) og oM ?_)
 intro v3 w3 hs3 hu3 hbf3;obtain⟨ao3,p3,rfl⟩:=hs3.rd.j7;have hgood:Hid (∀(hG:k∉G),CkGood most few (K++[k]) A G):=fun hG=>H2.o.good.push HK.o.1 HK.o.2 hG hr;have hs3':Sl w3 3 1 (.slice ao3 (K.length+1) p3) (K++[k]).length (ints (K++[k])):=by simpa using hs3
 have hstr3:=(hu3.block b H2.o.blt (fun e=>H2.o.kb e)).trans H2.o.str;have c2:=za hstr3 2;have c4:=za hstr3 4;have f2:=zg hstr3 2;simp at c2 c4;have HG3:=qqh (H2.o.gs.kS H2.o.kg.symm hu3);have HG4:=qqh ((HG3.o.kQ (zj w3 b 2 (.slice ao3 (K.length+1) p3)) H2.o.gb).rd);have S3:=Y4 hs3' hu3 hbf3 hstr3;clear hs3 hs3' hu3 hbf3 hstr3;go_wp2_with fail
 refine(xk HG4.o oM k).mono ?_;rintro e w4 ⟨rfl,hb4⟩;have HB4:=qqh hb4;have HU4:Hid (Upd S w w4):=(HU2.o.trans ((CkMem.updKeys (v2:=.slice ao3 (K.length+1) p3) H2.o.toCkMem S3.out.2.1).mono (fun j _ hj=>HS.o j hj))).trans (uuo hb4);have hM:CkMem w4 b mb N (.slice ao3 (K.length+1) p3) vg most few (K++[k]) A G:=(H2.o.toCkMem.setKeys S3.out.2.1 S3.out.1 S3.out.2.2.1).below hb4;have hz1:w.heap.size<=w4.heap.size:=HU4.o.size;have hS4:Hid (∀j,QQ b mb (.slice ao3 (K.length+1) p3) vg j->S j):=by
  intro j hj;rcases hj with h1|h1|h1|h1
  .exact HS.o j (.inl h1)
  .exact HS.o j (.inr (.inl h1))
  .rcases S3.out.2.2.1 with h2|⟨g,h2,h3⟩
   .exact HS.o j (.inr (.inr (.inl (by rw[<-h2];exact h1))))
   .rw [h2]at h1;cases h1;exact HN.o _ (qXx HU2.o.size h3)
  .exact HS.o j (.inr (.inr (.inr h1)))
 have HM:=qqh hM;clear hb4 c2 c4 f2 HG3 HG4 hM;by_cases hG:k∈G
 .obtain ⟨i,hi,hie,hiv,hib⟩:=ZD hG;rw[hie];have HE:Hid (G.eraseIdx i=G.erase k):=tO hi hiv hib;have c4:=za HM.o.str 4;simp at c4;have HGG:=qqh hG;clear hie hiv hib hG;go_wp2_with fail
  refine(ZC HM.o.gs oM hi).mono ?_;rintro e w5 ⟨v5,rfl,hbe,hs5,hu5⟩;obtain⟨ao5,p5,rfl⟩:=hs5.rd.j7;have hM5:=HM.o.setGhosts hu5 hs5 (.inl hbe);have hU5:=HM.o.updGhosts (v2:=.slice ao5 (G.eraseIdx i).length p5) hu5;have hstr5:=(hu5.block b (zf HM.o.str) (fun e=>HM.o.gb e)).trans HM.o.str;have c4:=za hstr5 4;have c3:=za hstr5 3;have f4:=zg hstr5 4;simp at c4 c3;obtain⟨w6,hrun,hs6,hu6,hz6⟩:=SetAt.store hM5.set (x:=k) hr hN;have HM6:=qqh (hM5.setAsked hu6 hs6);have HU6:Hid (Upd S w w6):=(HU4.o.trans (hU5.mono (fun j _ hj=>hS4.out j hj))).trans (hu6.mono (fun j _ hj=>by subst hj;exact hS4.out _ (.inr (.inl rfl))));have HB:Hid ((Value.slice ao5 (G.eraseIdx i).length p5).ownBlock=vg.ownBlock):=hbe;clear hM5 hU5 hstr5 hs6 hu6 hz6 hs5 hu5 hbe;go_wp2
  go_ret
  have hgd:CkGood most few (K++[k]) (agA A G k) (G.erase k):=by
   have h1:=(H2.o.good.erase k).push HK.o.1 HK.o.2 (fun e=>absurd e H2.o.good.gd.not_mem_erase) hr;unfold agA;rw[if_pos HGG.o];exact h1.touch oe
  refine⟨rfl,⟨mb,.slice ao3 (K.length+1) p3,.slice ao5 (G.erase k).length p5,⟨?_,hgd⟩,?_⟩,HU6.o⟩
  .have:=HM6.o;rw[HE.o]at this;unfold agA;rw[if_pos HGG.o];exact this
  .intro j hj;rcases hj with h1|h1|h1|h1
   .exact hS4.out j (.inl h1)
   .exact hS4.out j (.inr (.inl h1))
   .exact hS4.out j (.inr (.inr (.inl h1)))
   .exact hS4.out j (.inr (.inr (.inr (by rw[<-HB.o,HE.o];exact h1))))
 .rw [uA hG];have HF:Hid (agA A G k=A/\G.erase k=G/\CkGood most few (K++[k]) A G):=⟨if_neg hG,List.erase_of_not_mem hG,hgood.out hG⟩
  clear hG;go_wp2
  go_ret
  rw[HF.o.1,HF.o.2.1];exact⟨rfl,⟨mb,_,vg,CkAt.mono ⟨HM.o,HF.o.2.2⟩ oM,hS4.out⟩,HU4.o⟩
theorem QS{S:Nat->Prop}{w:World}{b N most few:Nat}{K G:List Int}{A:Int->Bool}(h:Ck S w b N most few K A G)(hn:∀j,w.heap.size<=j->S j)(k:Int)(hr:InR k)(hN:N<maxLen):
  Calls prog 205 #[.pointer (some ⟨b,0,none⟩),.int .i64 k] w fun e w'=>e=.returned (.int .i64 (addC most K k))/\
   Ck S w' b (N+1) most few (sB most K k) (Ta most K A G k) (Tb most K G k)/\Upd S w w':=by
 by_cases hk:k∈K\/K.length=most
 .refine (JC h k hk).mono ?_;rintro e w' ⟨rfl,hb⟩;unfold sB Ta Tb;rw[if_pos hk,if_pos hk,if_pos hk];exact⟨rfl,(h.below hb).mono oM,uuo hb⟩
 .have h1:k∉K:=fun e=>hk (.inl e);have h2:K.length≠most:=fun e=>hk (.inr e);refine(QR h hn k hr hN h1 h2).mono ?_;rintro e w' ⟨rfl,hc,hu⟩;unfold addC sB Ta Tb;rw[if_neg hk,if_neg hk,if_neg hk,if_neg h1,if_neg h2];exact⟨rfl,hc,hu⟩
def dropA(K:List Int)(A:Int->Bool)(k:Int):Int->Bool:=if k∈K then updB A k false else A
theorem Tc{S:Nat->Prop}{w:World}{b N most few:Nat}{K G:List Int}{A:Int->Bool}(h:Ck S w b N most few K A G)(k:Int):
  Calls prog 298 #[.pointer (some ⟨b,0,none⟩),.int .i64 k] w fun e w'=>e=.returned (.int .i64 (touchC K k))/\
   Ck S w' b N most few (K.erase k) (dropA K A k) G/\Upd S w w':=by
 obtain⟨mb,vk,vg,h,hS⟩:=h;have H:=qqh h;have HS:=qqh hS;have HR:=qqh h.ks.rd;have hle:=h.kle;obtain⟨-,-,g2,g3,-⟩:=h.c;have hblt:=h.blt;clear h hS;by_cases hk:k∈K
 .obtain ⟨i,hi,hix,hiv,hib⟩:=ZD hk;have e1:touchC K k=0:=if_pos hk;have e2:dropA K A k=updB A k false:=if_pos hk;rw[e1,e2];have HK:=qqh hk;have HE:Hid (K.eraseIdx i=K.erase k):=tO hi hiv hib;clear e1 e2 hk hiv hib;have q:decide ((i:Int)<0)=false:=by simp only[qYx];omega
  go_enter func298,ntmps298
  go_wp2_with fail
  refine(xk HR.o oM k).mono ?_;rintro e w1 ⟨rfl,hb1⟩;rw[hix];have H1:=qqh (H.o.below hb1);have k2:=(hb1.cell (p:=⟨b,2,none⟩) hblt).trans g2;have B1:=qqh hb1;clear hb1 g2 g3;go_wp2_with fail
  refine(ZC H1.o.ks oM hi).mono ?_;rintro e w2 ⟨v2,rfl,hbe,hs2,hu2⟩;obtain⟨ao2,p2,rfl⟩:=hs2.rd.j7;have hM2:=H1.o.toCkMem.setKeys hu2 hs2 (.inl hbe);have hU2:=H1.o.toCkMem.updKeys (v2:=.slice ao2 (K.eraseIdx i).length p2) hu2;have hstr2:=(hu2.block b H1.o.blt (fun e=>H1.o.kb e)).trans H1.o.str;have c2:=za hstr2 2;have c3:=za hstr2 3;have f2:=zg hstr2 2;simp at c2 c3;obtain⟨w3,hrun,hs3,hu3,hz3⟩:=SetAt.drop hM2.set (x:=k) (H1.o.good.kr k HK.o) 0;have HM3:=qqh (hM2.setAsked hu3 hs3);have HU3:Hid (Upd S w w3):=((uuo B1.out).trans (hU2.mono (fun j _ hj=>HS.o j hj))).trans (hu3.mono (fun j _ hj=>by subst hj;exact HS.o _ (.inr (.inl rfl))));have HB:Hid ((Value.slice ao2 (K.eraseIdx i).length p2).ownBlock=vk.ownBlock):=hbe;clear hM2 hU2 hstr2 hs3 hu3 hz3 hs2 hu2 hbe;go_wp2
  go_ret
  refine⟨rfl,⟨mb,.slice ao2 (K.erase k).length p2,vg,⟨?_,H1.o.good.drop k⟩,?_⟩,HU3.o⟩
  .have:=HM3.o;rw[HE.o]at this;exact this
  .intro j hj;rcases hj with h1|h1|h1|h1
   .exact HS.o j (.inl h1)
   .exact HS.o j (.inr (.inl h1))
   .exact HS.o j (.inr (.inr (.inl (by rw[<-HB.o,HE.o];exact h1))))
   .exact HS.o j (.inr (.inr (.inr h1)))
 .have hix:=uA hk;have e1:touchC K k=14:=if_neg hk;have e2:dropA K A k=A:=if_neg hk;have e3:K.erase k=K:=List.erase_of_not_mem hk;rw[e1,e2,e3];clear e1 e2 e3 hk g3;go_enter func298,ntmps298
  go_wp2_with fail
  refine(xk HR.o oM k).mono ?_;rintro e w1 ⟨rfl,hb1⟩;rw[hix];go_wp2
  go_ret
  exact⟨rfl,⟨mb,vk,vg,H.o.below hb1,HS.o⟩,uuo hb1⟩
theorem Td{S:Nat->Prop}{w:World}{b N most few:Nat}{K G:List Int}{A:Int->Bool}(h:Ck S w b N most few K A G)(k:Int)(hN:N<maxLen):
  Calls prog 325 #[.pointer (some ⟨b,0,none⟩),.int .i64 k] w fun e w'=>e=.returned (.int .i64 (touchC K k))/\
   Ck S w' b (N+1) most few K (agA A K k) G/\Upd S w w':=by
 obtain⟨mb,vk,vg,h,hS⟩:=h;refine(WF h k hN).mono ?_;rintro e w' ⟨rfl,hc,hu⟩;exact⟨rfl,⟨mb,vk,vg,hc,hS⟩,hu.mono (fun j _ hj=>by subst hj;exact hS _ (.inr (.inl rfl)))⟩
theorem JD{S:Nat->Prop}(m f:Nat)(w:World)(h1:1<=m)(h2:m<=1024)(h3:f<=1024)(hn:∀j,w.heap.size<=j->S j):
  Calls prog 135 #[.int .i64 m,.int .i64 f] w fun e w'=>∃b,e=.returned (.tuple #[.pointer (some ⟨b,0,none⟩),.int .i64 0])/\
   Ck S w' b 0 m f [] (fun _=>false) []/\w.heap.size<=b/\Below w.heap.size w w':=by
 refine(JB m f w h1 h2 h3).mono ?_;rintro e w' ⟨b,mb,rfl,hc,hb,hmb,hB⟩;refine⟨b,rfl,⟨mb,_,_,hc,?_⟩,hb,hB⟩;rintro j (rfl|rfl|hj|hj)
 .exact hn _ hb
 .exact hn _ hmb
 .cases hj
 .cases hj
abbrev zM(s:Int)(d:Bool):Value:=.agg #[.int .i64 s,.bool d]
theorem yW(w:World):Calls prog 173 #[] w fun e w'=>e=.returned (zM (-1) false)/\Upd (fun _=>False) w w'/\w'.heap.size=w.heap.size+1:=by
 go_enter func173,ntmps173
 go_wp2
 have hA:=zc w (.cells #[.int .i64 (-1),.bool false] 95) rfl;have c0:=za hA 0;have c1:=za hA 1;simp at c0 c1;refine qYw (v:=zM (-1) false) ?_ rfl ⟨rfl,(uur _ _).alloc _,oe⟩;simp[results,results173,go_sem]
def plC(l:List (Int×Bool)):List Value:=l.flatMap fun p=>[.int .i64 p.1,.bool p.2]
theorem JE(l:List (Int×Bool)):(plC l).length=l.length*2:=yK (f:=fun p:Int×Bool=>[Value.int .i64 p.1,Value.bool p.2]) (k:=2) (fun _=>rfl) l
theorem xL{l:List (Int×Bool)}{k:Nat}(h:k<l.length):(plC l)[k*2]?=some (.int .i64 l[k].1)/\(plC l)[k*2+1]?=some (.bool l[k].2):=
 ⟨wn (f:=fun p:Int×Bool=>[Value.int .i64 p.1,Value.bool p.2]) (k:=2) (fun _=>rfl) l k 0 de l[k] (qyn h),
  wn (f:=fun p:Int×Bool=>[Value.int .i64 p.1,Value.bool p.2]) (k:=2) (fun _=>rfl) l k 1 de l[k] (qyn h)⟩
theorem QT(n:Nat):noPl n=plC (List.replicate n (-1,false)):=by
 induction n with
 |zero=>rfl
 |succ n ih=>rw[Nat.add_comm n 1,qO,ih,<-List.replicate_append_replicate];simp[plC,noPl]
structure IndexAt(w:World)(b:Nat)(v:Value)(mb N:Nat)(ps:List (Int×Bool))(slots:Nat):Prop where
 str:w.heap[b]?=some (.cells #[v,.map (some mb),.int .i64 slots] 285 (0,0))
 sl:Sl w 95 2 v ps.length (plC ps)
 map:MapAt w mb N (atOf ps)
 good:Good ps slots
 ne:v.ownBlock≠some b
 nm:mb≠b
 nv:v.ownBlock≠some mb
 le:ps.length<=4096
 sl1:slots<=1024
def ixS(v:Value)(mb:Nat):Nat->Prop:=fun j=>v.ownBlock=some j\/j=mb
theorem IndexAt.keep{w w':World}{b mb N:Nat}{v:Value}{ps:List (Int×Bool)}{slots:Nat}(h:IndexAt w b v mb N ps slots){S:Nat->Prop}(hu:Upd S w w')(hb:¬S b)(hs:∀j,ixS v mb j->¬S j):IndexAt w' b v mb N ps slots:=
 {str:=(hu.block _ (zf h.str) hb).trans h.str,sl:=h.sl.keep hu (fun g hg=>hs g (.inl hg)),map:=h.map.keep hu (hs mb (.inr rfl)),good:=h.good,ne:=h.ne,nm:=h.nm,nv:=h.nv,le:=h.le,sl1:=h.sl1}
theorem IndexAt.below{w w':World}{b mb N:Nat}{v:Value}{ps:List (Int×Bool)}{slots:Nat}(h:IndexAt w b v mb N ps slots)(hb:Below w.heap.size w w'):IndexAt w' b v mb N ps slots:=
 h.keep (uuo (S:=fun _=>False) hb) id (fun _ _ h=>h)
theorem IndexAt.mono{w:World}{b mb N N':Nat}{v:Value}{ps:List (Int×Bool)}{slots:Nat}(h:IndexAt w b v mb N ps slots)(hn:N<=N'):IndexAt w b v mb N' ps slots:={h with map:=h.map.mono hn}
theorem IndexAt.blt{w:World}{b mb N:Nat}{v:Value}{ps:List (Int×Bool)}{slots:Nat}(h:IndexAt w b v mb N ps slots):b<w.heap.size:=zf h.str
theorem IndexAt.slt{w:World}{b mb N:Nat}{v:Value}{ps:List (Int×Bool)}{slots:Nat}(h:IndexAt w b v mb N ps slots):∀j,ixS v mb j->j<w.heap.size:=by
 rintro j (hj|rfl)
 .exact h.sl.lt hj
 .exact h.map.lt
theorem JF(n s:Nat)(w:World)(h1:1<=n)(h2:n<=4096)(h3:1<=s)(h4:s<=1024):
  Calls prog 132 #[.int .i64 n,.int .i64 s] w fun e w'=>∃b v mb,e=.returned (.tuple #[.pointer (some ⟨b,0,none⟩),.int .i64 0])/\
   IndexAt w' b v mb 0 (List.replicate n (-1,false)) s/\w.heap.size<=b/\w.heap.size<=mb/\From w.heap.size v/\Below w.heap.size w w':=by
 have hmm:= @run_makeMap prog;go_enter func132,ntmps132
 go_wp2_with fail
 refine(yW _).mono ?_;rintro e w1 ⟨rfl,hu1,hz1⟩;have hx:(w1.alloc (.cells #[.int .i64 (-1),.bool false] 95)).heap[w.heap.size+1]?=some (.cells #[.int .i64 (-1),.bool false] 95):=zc _ _ hz1.symm;have HX:=qqh hx;clear hx;go_wp2_with fail
 refine(UR n (w.heap.size+1) _ h1 h2 HX.o).mono ?_;rintro e w2 ⟨rfl,hg2,hb2,hz2⟩;have hz2':w2.heap.size=w.heap.size+3:=by rw[hz2];simp[hz1]
 have hB2:Below w.heap.size w w2:=(zk (qxl _ w) (hu1.alloc (.cells #[.int .i64 (-1),.bool false] 95)) (qXv _) (fun _ h=>h.elim)).trans (hb2.mono (by simp[hz1];omega));have HG:=qqh hg2;have HB:=qqh hB2;clear hg2 hB2 hb2 hz2;go_wp2
 go_ret2
 have hM:=Upd.alloc (uur (fun _=>False) w2) (.map #[] 0);have hg2:w2.heap[w.heap.size+2]?=some (.cells (noPl n).toArray 95):=by have:=HG.o;simpa[hz1]using this
 have hsl:Sl w2 95 2 (.slice (some ⟨w.heap.size+2,0,none⟩) n n) (List.replicate n ((-1:Int),false)).length (plC (List.replicate n (-1,false))):=by
  rw[<-QT];refine⟨by rw[yN];simp,.inr ⟨w.heap.size+2,0,n,(noPl n).toArray,oe,hg2,oe,by unfold maxLen;omega,by simp[yN],fun j u hj=>by simpa using hj⟩⟩
 have hmap:MapAt (w2.alloc (.map #[] 0)) (w.heap.size+3) 0 (atOf (List.replicate n (-1,false))):=by
  have:=MapAt.made w2;rw[hz2']at this;rw[WC];exact this
 refine⟨w.heap.size+3+1,.slice (some ⟨w.heap.size+2,0,none⟩) n n,w.heap.size+3,rfl,⟨zc _ _ (by simp[hz2']),?_,hmap.keep (Upd.alloc (uur (fun _=>False) _) _) id,Good.start n s,by simp[Value.ownBlock],oM,by simp[Value.ownBlock],by simp;omega,h4⟩,oM,oM,?_,?_⟩
 .exact hsl.keep (hM.alloc _) (fun _ _ h=>h)
 .intro g hg;simp[Value.ownBlock]at hg;omega
 .exact zk HB.o (hM.alloc _) (qXv _) (fun _ h=>h.elim)
def getV(ps:List (Int×Bool))(b:Int):Int×Bool:=if b<0\/(ps.length:Int)<=b then(0,false)else if ps.getD b.toNat (-1,false)=(-1,false)then(0,false)else ps.getD b.toNat (-1,false)
def getC(ps:List (Int×Bool))(b:Int):Int:=if b<0\/(ps.length:Int)<=b then 10 else if ps.getD b.toNat (-1,false)=(-1,false)then 14 else 0
theorem JG{w:World}{b mb N:Nat}{v:Value}{ps:List (Int×Bool)}{slots:Nat}(h:IndexAt w b v mb N ps slots)(k:Int)(ho:k<0\/(ps.length:Int)<=k):
  Calls prog 100 #[.pointer (some ⟨b,0,none⟩),.int .i64 k] w fun e w'=>e=.returned (.tuple #[zM 0 false,.int .i64 10])/\Below w.heap.size w w':=by
 have hu:Upd (fun _=>False) w (w.alloc (.cells #[.int .i64 0,.bool false] 95)):=(uur _ _).alloc _;have hc0:=(hu.cellAt (o:=0) (zf h.str) id).trans (za h.str 0);simp at hc0;have hle:=h.le;have hA:=zc w (.cells #[.int .i64 0,.bool false] 95) rfl;have c0:=za hA 0;have c1:=za hA 1;simp at c0 c1;have C0:=qqh c0;have C1:=qqh c1;clear hA c0 c1;obtain⟨ao,c,rfl⟩:=h.sl.rd.j7;clear h;by_cases h0:k<0
 .clear ho;go_enter func100,ntmps100
  go_wp2
  refine qYw (v:=.tuple #[zM 0 false,.int .i64 10]) ?_ rfl ⟨rfl,(qxl _ _).alloc (qXv _) _⟩;simp[results,results100,go_sem]
 .have h1:(ps.length:Int)<=k:=oM;clear ho;go_enter func100,ntmps100
  go_wp2
  refine qYw (v:=.tuple #[zM 0 false,.int .i64 10]) ?_ rfl ⟨rfl,(qxl _ _).alloc (qXv _) _⟩;simp[results,results100,go_sem]
theorem IndexAt.at{w:World}{b mb N:Nat}{v:Value}{ps:List (Int×Bool)}{slots:Nat}(h:IndexAt w b v mb N ps slots){k:Nat}(hk:k<ps.length):
  ∃g off cap,v=.slice (some ⟨g,off,none⟩) ps.length cap/\g<w.heap.size/\w.cell? ⟨g,off+k*2,none⟩=some (.int .i64 ps[k].1)/\w.cell? ⟨g,off+k*2+1,none⟩=some (.bool ps[k].2):=by
 obtain⟨g,off,cap,cur,rfl,hg,_,hc⟩:=h.sl.at oM;exact⟨g,off,cap,rfl,zf hg,by rw[za hg];exact hc _ _ (xL hk).1,by rw[za hg];exact hc (k*2+1) _ (xL hk).2⟩
theorem Xb{w:World}{b mb N:Nat}{v:Value}{ps:List (Int×Bool)}{slots:Nat}(h:IndexAt w b v mb N ps slots)(k:Nat)(hk:k<ps.length)(hp:ps[k].1≠-1):
  Calls prog 100 #[.pointer (some ⟨b,0,none⟩),.int .i64 k] w fun e w'=>e=.returned (.tuple #[zM ps[k].1 ps[k].2,.int .i64 0])/\Below w.heap.size w w':=by
 have hu:Upd (fun _=>False) w (w.alloc (.cells #[.int .i64 0,.bool false] 95)):=(uur _ _).alloc _;have hc0:=(hu.cellAt (o:=0) (zf h.str) id).trans (za h.str 0);simp at hc0;have hle:=h.le;have hbl:=zf h.str;obtain⟨g,off,cap,rfl,hg,q0,q1⟩:=h.at hk;have p0:=(hu.cellAt hg id).trans q0;have p1:=(hu.cellAt hg id).trans q1;have hA:=zc w (.cells #[.int .i64 0,.bool false] 95) rfl;have HA:=qqh hA;clear h q0 q1 hA;go_enter func100,ntmps100
 go_wp2
 go_region_held3 (fun W=>W.cell? ⟨b,0,none⟩=some (.slice (some ⟨g,off,none⟩) ps.length cap)/\W.cell? ⟨g,off+k*2,none⟩=some (.int .i64 ps[k].1)/\W.cell? ⟨g,off+k*2+1,none⟩=some (.bool ps[k].2)) (go_keep)
  ((go_at_call 173;refine(yW _).mono ?_;rintro e w2 ⟨rfl,hu2,hz2⟩;have k0:=(hu2.cellAt (o:=0) oh id).trans hc0;have k1:=(hu2.cellAt oh id).trans p0;have k2:=(hu2.cellAt oh id).trans p1))
 have hb0:(ps[k].1== -1)=false:=by simpa using hp
 have hA2:w2.heap[w.heap.size]?=some (.cells #[.int .i64 0,.bool false] 95):=(hu2.block _ oe id).trans HA.o;have r0:=za hA2 0;have r1:=za hA2 1;have f0:=zg hA2 0;have f1:=zg hA2 1;simp at r0 r1;have HA2:=qqh hA2;clear hA2;go_wp2
 have HA3:=zi (zi HA2.o 0 (.int .i64 ps[k].1)) 1 (.bool ps[k].2);have y0:=za HA3 0;have y1:=za HA3 1;simp at y0 y1;refine qYw (v:=.tuple #[zM ps[k].1 ps[k].2,.int .i64 0]) ?_ rfl ⟨rfl,?_⟩
 .simp [results,results100,go_sem,y0,y1]
 .exact zk (zk (((qxl _ _).alloc (qXv _) _).drew) hu2 (qXv _) (fun _ (h:False)=>h.elim)) ((zj w2 w.heap.size 0 (.int .i64 ps[k].1)).trans (zj _ _ 1 _)) (qXv _) (fun j e=>oM)
theorem QU{w:World}{b mb N:Nat}{v:Value}{ps:List (Int×Bool)}{slots:Nat}(h:IndexAt w b v mb N ps slots)(k:Nat)(hk:k<ps.length)(hp:ps[k]=(-1,false)):
  Calls prog 100 #[.pointer (some ⟨b,0,none⟩),.int .i64 k] w fun e w'=>e=.returned (.tuple #[zM 0 false,.int .i64 14])/\Below w.heap.size w w':=by
 have hu:Upd (fun _=>False) w (w.alloc (.cells #[.int .i64 0,.bool false] 95)):=(uur _ _).alloc _;have hc0:=(hu.cellAt (o:=0) (zf h.str) id).trans (za h.str 0);simp at hc0;have hle:=h.le;have hbl:=zf h.str;obtain⟨g,off,cap,rfl,hg,q0,q1⟩:=h.at hk;rw[hp]at q0 q1;have p0:=(hu.cellAt hg id).trans q0;have p1:=(hu.cellAt hg id).trans q1;have hA:=zc w (.cells #[.int .i64 0,.bool false] 95) rfl;have HA:=qqh hA;clear h q0 q1 hA hp;go_enter func100,ntmps100
 go_wp2
 go_region_held3 (fun W=>W.cell? ⟨b,0,none⟩=some (.slice (some ⟨g,off,none⟩) ps.length cap)/\W.cell? ⟨g,off+k*2,none⟩=some (.int .i64 (-1))/\W.cell? ⟨g,off+k*2+1,none⟩=some (.bool false)) (go_keep)
  ((go_at_call 173;refine(yW _).mono ?_;rintro e w2 ⟨rfl,hu2,hz2⟩;have k0:=(hu2.cellAt (o:=0) oh id).trans hc0;have k1:=(hu2.cellAt oh id).trans p0;have k2:=(hu2.cellAt oh id).trans p1))
 have hA2:w2.heap[w.heap.size]?=some (.cells #[.int .i64 0,.bool false] 95):=(hu2.block _ oe id).trans HA.o;have r0:=za hA2 0;have r1:=za hA2 1;have f0:=zg hA2 0;have f1:=zg hA2 1;simp at r0 r1;have HA2:=qqh hA2;clear hA2;go_wp2
 have HA3:=zi (zi HA2.o 0 (.int .i64 0)) 1 (.bool false);have y0:=za HA3 0;have y1:=za HA3 1;simp at y0 y1;refine qYw (v:=.tuple #[zM 0 false,.int .i64 14]) ?_ rfl ⟨rfl,?_⟩
 .simp [results,results100,go_sem,y0,y1]
 .exact zk (zk (((qxl _ _).alloc (qXv _) _).drew) hu2 (qXv _) (fun _ (h:False)=>h.elim)) ((zj w2 w.heap.size 0 (.int .i64 0)).trans (zj _ _ 1 _)) (qXv _) (fun j e=>oM)
end Go.Proofs.YtfhfbpmlnjdfoaaGreatDoor
