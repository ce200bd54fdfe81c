/- What lavabolaw -/
import Derived.Test.YtpejdgiccaijfaaGreatDoorG27
import Derived.Test.YtpejdgiccaijfaaGreatDoorG26
import Derived.Test.YtpejdgiccaijfaaGreatDoorG28
set_option maxRecDepth 100000
set_option maxHeartbeats 2000000
namespace Go.Proofs.YtpejdgiccaijfaaGreatDoor
open Go Go.RowKit Tryz
theorem yL{own own':Nat->Nat}{w w':World}{b:Nat}{o:Obj}(d:Did own own' w w')(hb:w.heap[b]?=some o)(h0:own b=0):w'.heap[b]?=some o/\own' b=0:=
 ⟨(d.upd.block _ (zd hb) (fun h=>h.1 h0)).trans hb,(d.old _ (zd hb)).trans h0⟩
theorem Yc:(prog.info? 155).map (·.size)=some 4:=kR
theorem Yd:(prog.info? 256).map (·.size)=some 2:=kR
theorem tn{α:Type}{enc:α->List Value}{m:Nat}(hl:∀x,(enc x).length=m)(hm:0<m):∀(L:List α) (k:Nat),(L.flatMap enc)[k]?=(L[k/m]?).bind (fun y=>(enc y)[k%m]?)
 |[],k=>oe
 |y::L,k=>by
  rw[qye];by_cases h:k<m
  .rw [qyg (by rw[hl];exact h),Nat.div_eq_of_lt h,qXs h];simp
  .rw [qyh (by rw[hl];omega),hl,tn hl hm L (k-m)];obtain⟨q,rfl⟩:∃q,k=q+m:=⟨k-m,oM⟩
   rw[Nat.add_sub_cancel,Nat.add_div_right _ hm,Nat.add_mod_right];simp
theorem Sl.ent_set{w:World}{e:TypeId}{g off n cap:Nat}{L:List Ent}(h:Sl w e 4 (.slice (some ⟨g,off,none⟩) n cap) n (L.flatMap entC)){i:Nat}(hi:i<L.length)(x:Ent):
  Sl (w.setCells g (off+i*4) (entC x)) e 4 (.slice (some ⟨g,off,none⟩) n cap) n ((L.set i x).flatMap entC):=by
 have hle:∀L:List Ent,(L.flatMap entC).length=L.length*4:=fun L=>by
  induction L with
  |nil=>rfl
  |cons y L ih=>rw[qye,qyy,ih,qyz];show 4+_=_;omega
 obtain⟨hl,⟨h1,h2⟩|⟨g',off',cap',cur,h1,hg,hn,hm,hs,hc⟩⟩:=h
 .cases h1
 cases h1;obtain⟨cur',h1,h2,h3⟩:=zy (entC x) (off+i*4) w g cur _ _ hg;rw[hle]at hl;refine⟨by rw[hle,qze];exact hl,.inr ⟨g,off,cap,cur',rfl,h1,hn,hm,by rw[h2];exact hs,fun j u hj=>?_⟩⟩;have hjl:j<L.length*4:=by
  have:=(qyl.1 hj).1;rw[hle,qze]at this;exact this
 rw[tn (enc:=entC) (m:=4) (fun _=>rfl) de]at hj;have hcj:=hc j;rw[tn (enc:=entC) (m:=4) (fun _=>rfl) de]at hcj;have hnc:n<=cap:=hn;have e4:(entC x).length=4:=rfl;rw[h3];by_cases hq:j/4=i
 .rw [if_pos ⟨oM,by rw[e4];omega,oM⟩];rw[hq,List.getElem?_set_self hi]at hj;rw[show off+j-(off+i*4)=j%4 by omega];exact hj
 .rw [if_neg (fun h=>by rw[e4]at h;omega)];rw[List.getElem?_set_ne (fun e=>hq e.symm)]at hj;exact hcj u hj
theorem Av(x:Ent)(w:World):Calls prog 87 #[.agg (entC x).toArray] w fun e w'=>e=.returned (.bool (!x.d))/\Below w.heap.size w w':=by
 obtain⟨w1,hw1⟩:=qqe (w.alloc (.cells (entC x).toArray 155));have hb1:Below w.heap.size w w1:=by rw[hw1];exact(qxl _ w).alloc (qXo _) _
 have e2:w1.cell? ⟨w.heap.size,2,none⟩=some (.bool x.d):=by rw[hw1,za (zc w _ rfl)];rfl
 have HW:=qqh hw1;obtain⟨b,s,d,m⟩:=x;simp only[entC]at HW⊢;simp only at e2;clear hw1;go_enter func87,ntmps87
 go_upto_region 1 with fail
 rw[<-HW.o];go_wp2
 go_ret
 exact⟨rfl,hb1⟩
def idxE(L:List Ent):Int:=match L.findIdx? (fun x=>!x.d)with|some i=>(i:Int)|none=> -1
abbrev zcV:Value:=.func (.func 87) #[] #[]
theorem zeu{w:World}{v:Value}{L:List Ent}(hv:Sl w 155 4 v L.length (L.flatMap entC)):
  Calls prog 138 #[v,zcV] w fun e w'=>e=.returned (.int .i64 (idxE L))/\Below w.heap.size w w':=by
 obtain⟨av,cv,hva⟩:=hv.rd.jU;have hLl:=hv.le;unfold maxLen at hLl;subst hva;have HV:=qqh hv;obtain⟨R,hR⟩:=qqe (idxE L);rw[<-hR];have HR:=qqh hR;clear hv hR;go_enter func138,ntmps138
 go_wp2_with fail
 go_loopg[8] L.length (fun gk s8 wr=>∃i:Nat,i+gk=L.length/\s8=.int .i64 (i:Int)/\(∀j (h:j<L.length),j<i->L[j].d=true)/\Below w.heap.size w wr)
 case atStart=>exact⟨0,oM,rfl,fun j _ h=>absurd h (Nat.not_lt_zero _),qxl _ _⟩
 case round=>
  obtain⟨i,hi,rfl,hd,hb⟩:=hrel;by_cases hlt:i<L.length
  .obtain ⟨ga,oa,ca,ea,hga,hca⟩:=(HV.o.keep (uuo (S:=fun _=>False) hb) (fun _ _ h=>h)).rd.at oM;cases ea;have ra:=yI (enc:=entC) (m:=4) (fun _=>rfl) hca hlt;have hp:=Av L[i] wr;obtain⟨x,hx⟩:=qqe (L[i]);rw[<-hx]at ra hp;have hE4s:(prog.info? 155).map (·.size)=some (entC x).length:=Yc;have hut:=underlying155;have q1:(i:Int)<(L.length:Int):=oM;have i0:(0:Int)<=(i:Int):=oM;have H:=Y5 hd hb hx hp hlt;clear hd hb hp hga hca;obtain⟨X,hX⟩:=qqe (entC x);have HP:=H.o.2.2.2.1;rw[<-hX]at ra hE4s HP;replace HP:=qqh HP;clear hX;go_wp2_with (first
    |(refine qYy rfl _ _ rfl _ _ rfl _ _ ra hut rfl hE4s ?_)
    |fail)
   refine HP.o.mono ?_;rintro e w1 ⟨rfl,hb1⟩;have hb2:=qqh (H.o.2.1.trans (hb1.mono H.o.2.1.size));clear hb1 ra;cases hxd:x.d with
   |false=>
    rw[Bool.not_false];go_wp2
    go_ret
    refine⟨?_,hb2.out⟩;rw[HR.o];have:L.findIdx? (fun x=>!x.d)=some i:=by
     rw[List.findIdx?_eq_some_iff_getElem];exact⟨H.o.2.2.2.2,by rw[<-H.o.2.2.1,hxd];rfl,fun j hj=>by rw[H.o.1 j (by have:=H.o.2.2.2.2;omega) hj];simp⟩
    unfold idxE;rw[this];rfl
   |true=>
    rw[Bool.not_true];go_wp2_with fail
    go_roundg (gk-1)
    case measure=>omega
    case rel=>
     refine⟨i+1,oM,by go_num,fun j hj hji=>?_,hb2.out⟩;by_cases e:j=i
     .subst e;rw[<-H.o.2.2.1];exact hxd
     .exact H.o.1 j hj oM
  .obtain rfl:i=L.length:=oM;have q1:¬((L.length:Int)<(L.length:Int)):=oM;have H:=Y2 hd hb;clear hd hb hlt;go_wp2
   go_ret
   refine⟨?_,H.o.2⟩;rw[HR.o];have:L.findIdx? (fun x=>!x.d)=none:=by
    rw[List.findIdx?_eq_none_iff];intro x hx;obtain⟨j,hj,rfl⟩:=qyv hx;rw[H.o.1 j hj hj];rfl
   unfold idxE;rw[this];rfl
theorem EV:(prog.info? 155).map (fun i=>(i.zero.map (fun z=>(z.cells.size,z.cells.all (·.oneCell'))),i.size))=some (some (4,true),4):=kR
theorem Ye{w:World}{g off n cap:Nat}{cur:Array Value}(hg:w.heap[g]?=some (.cells cur 155 (0,0)))(hs:off+n*4<=cur.size)(hn:0<n):
  ∃w',(∀ty,(Builtin.clear_ #[146] ty #[.slice (some ⟨g,off,none⟩) n cap]).run prog w=.ok (.tuple #[]) w')/\Upd (fun j=>j=g) w w'/\
   ∃cur',w'.heap[g]?=some (.cells cur' 155 (0,0))/\cur'.size=cur.size/\∀i,i<off->cur'[i]?=cur[i]?:=by
 obtain⟨i,hi,h⟩:=qYb.1 EV;simp only[qYd]at h;obtain⟨z,hz,hzz⟩:=qYb.1 h.1;simp only[qYd]at hzz;obtain⟨hzs,hz1⟩:=hzz;have hlen:(Builtin.zeroCells z.cells n).toList.length=n*4:=by simp[Builtin.zeroCells,hzs]
 have h1:∀v∈(Builtin.zeroCells z.cells n).toList,v.oneCell'=true:=by
  intro v hv;simp only[Builtin.zeroCells,Array.toList_map,qzq]at hv;obtain⟨k,hk,rfl⟩:=hv;have:k%z.cells.size<z.cells.size:=qXt _ oM;rw[getElem!_pos z.cells (k%z.cells.size) this];exact Array.all_eq_true.1 hz1 _ this
 have hst:=run_storeCells_cells (P:=prog) g off (Builtin.zeroCells z.cells n).toList 0 w
  (fun j hj=>by rw[hlen]at hj;rw[za hg,qXm,qxe oM];rfl) (fun j hj=>zf hg _) h1
 simp only[qXm]at hst;obtain⟨cur',h2,h3,h4⟩:=zy (Builtin.zeroCells z.cells n).toList off w g cur _ _ hg;have hzr:∀w,(zeroValue 155).run prog w=.ok z w:=fun w=>by simp[zeroValue,typeInfo,hi,hz]
 refine⟨_,fun ty=>?_,yi _ w g off _ rfl,cur',h2,h3,fun i hi=>by rw[h4,if_neg oM]⟩;obtain⟨m,rfl⟩:∃m,n=m+1:=⟨n-1,oM⟩
 simp[Builtin.clear_,run_underlying underlying146,hzr,hst]
def zbg(w:World)(v:Value)(M:List Ent)(e:Ending)(w':World):Prop:=∃v',e=.returned v'/\Sl w' 155 4 v' M.length (M.flatMap entC)/\v'.ownBlock=v.ownBlock/\Upd (fun k=>v.ownBlock=some k) w w'
def dirE(L:List Ent)(j:Nat):List Ent:=(L.take j).filter (fun x=>x.d)
theorem vz{L:List Ent}{j:Nat}(h:j<L.length):dirE L (j+1)=dirE L j++(if L[j].d=true then[L[j]]else[]):=by
 unfold dirE;rw[qXk h,List.filter_append]
 congr 1
 by_cases hd:L[j].d=true
 .rw [if_pos hd];simp[hd]
 .rw [if_neg hd];simp[hd]
theorem rH{L:List Ent}:∀i,i<=L.length->(∀j (h:j<L.length),j<i->L[j].d=true)->dirE L i=L.take i
 |0,_,_=>rfl
 |i+1,hi,h=>by
  rw[vz oM,rH i oM (fun j hj hji=>h j hj oM),if_pos (h i oM oM),qXk oM]
theorem zev{w:World}{v:Value}{L:List Ent}(hv:Sl w 155 4 v L.length (L.flatMap entC)):
  Calls prog 86 #[v,zcV] w (zbg w v (dirE L L.length)):=by
 have HI:=qqh (zeu hv);by_cases h0:∀j (h:j<L.length),L[j].d=true
 .have hix:idxE L= -1:=by
   have:L.findIdx? (fun x=>!x.d)=none:=by
    rw[List.findIdx?_eq_none_iff];intro x hx;obtain⟨j,hj,rfl⟩:=qyv hx;rw[h0 j hj];rfl
   unfold idxE;rw[this]
  rw[hix]at HI;have hM:dirE L L.length=L:=by rw[rH _ (qXo _) (fun j hj _=>h0 j hj),List.take_length]
  rw[hM];have HV:=qqh hv;clear hv h0 hix hM;go_enter func86,ntmps86
  go_wp2_with fail
  refine HI.o.mono ?_;rintro e w' ⟨rfl,hb⟩;go_wp2
  go_ret
  exact⟨v,rfl,HV.o.keep (uuo (S:=fun _=>False) hb) (fun _ _ h=>h),rfl,(uuo hb)⟩
 .obtain ⟨i0,hi0,hd0,hf0,hix⟩:∃(i0:Nat) (h:i0<L.length),L[i0].d=false/\(∀j (h:j<L.length),j<i0->L[j].d=true)/\idxE L=(i0:Int):=by
   cases hq:L.findIdx? (fun x=>!x.d)with
   |none=>
    rw[List.findIdx?_eq_none_iff]at hq;exact absurd (fun j h=>by simpa using hq L[j] (qyu h)) h0
   |some i=>
    have hq2:=hq;rw[List.findIdx?_eq_some_iff_getElem]at hq;obtain⟨a1,a2,a3⟩:=hq;refine⟨i,a1,by simpa using a2,fun j hj hji=>by simpa using a3 j hji,?_⟩;unfold idxE;rw[hq2]
  rw[hix]at HI;have hLl:=hv.le;obtain⟨hvl,⟨-,h2⟩|⟨g,off,cap,cur,rfl,hg,hcap,hcm,hsz,hcc⟩⟩:=hv
  .omega
  have HV:=Y4 (show Sl w 155 4 (.slice (some ⟨g,off,none⟩) L.length cap) L.length (L.flatMap entC)from⟨hvl,.inr ⟨g,off,cap,cur,rfl,hg,hcap,hcm,hsz,hcc⟩⟩) hi0 hd0 hf0;unfold maxLen at hLl hcm;have hcap2:=hcap;clear h0 hix hd0 hf0 hvl hg hsz hcc;go_enter func86,ntmps86
  go_wp2_with fail
  refine HI.o.mono ?_;rintro e w1 ⟨rfl,hb⟩;have H1:=qqh (uuo (S:=fun _=>False) hb);clear hb;go_wp2_with fail
  go_loopg[5,6] (L.length-(i0+1)) (fun gk s5 s6 wr=>∃(j:Nat) (X:List Ent),j+gk=L.length/\i0<j/\s6=.int .i64 (j:Int)/\s5=.int .i64 ((dirE L j).length:Int)/\(dirE L j).length<j/\X.length=L.length/\X.take (dirE L j).length=dirE L j/\(∀q,j<=q->X[q]?=L[q]?)/\Sl wr 155 4 (.slice (some ⟨g,off,none⟩) L.length cap) L.length (X.flatMap entC)/\Upd (fun k=>k=g) w wr)
  case atStart=>
   have hd1:dirE L (i0+1)=L.take i0:=by rw[vz HV.o.2.1,rH i0 oM HV.o.2.2.2,if_neg (by rw[HV.o.2.2.1];decide),qxx]
   have hl1:(dirE L (i0+1)).length=i0:=by rw[hd1,qzf];omega
   exact⟨i0+1,L,oM,oM,by go_num,by rw[hl1],oM,rfl,by rw[hl1,hd1],fun _ _=>rfl,HV.o.1.keep H1.o (fun _ _ h=>h),H1.o.mono fE⟩
  case round=>
   obtain⟨j,X,hj,hij,rfl,rfl,hk,hXl,hXt,hXd,hX,hu⟩:=hrel;by_cases hlt:j<L.length
   .have hjX:j<X.length:=oM;have hxj:X[j]=L[j]:=by
     have:=hXd j (qXo _);rw[qyj hjX,qyj hlt]at this;exact qYc this
    obtain⟨ga,oa,ca,ea,hga,hca⟩:=hX.rd.at oM;cases ea;have ra:=yI (enc:=entC) (m:=4) (fun _=>rfl) hca hjX;obtain⟨x,hx⟩:=qqe (L[j]);rw[hxj,<-hx]at ra;obtain⟨E4,hE4⟩:=qqe (entC x);have hE41:∀v∈E4,v.oneCell'=true:=by rw[hE4];intro v hv;simp[entC]at hv;rcases hv with rfl|rfl|rfl|rfl<;>rfl
    have hE4l:E4.length=4:=by rw[hE4];rfl
    have hE4s:(prog.info? 155).map (·.size)=some E4.length:=by rw[hE4l];exact Yc
    rw[<-hE4]at ra;obtain⟨w2,hw2⟩:=qqe (wr.alloc (.cells E4.toArray 155));have hu2:=qqu hw2;obtain⟨q,hq⟩:=qqe (wr.heap.size);have r2:=zg (zc wr (.cells E4.toArray 155) rfl);rw[<-hw2,<-hq]at r2;have hgq:g≠q:=fun e=>by have:=hX.lt (g:=g) rfl;omega
    have hp:=Av x w2;rw[<-hE4]at hp;have q1:(j:Int)<(L.length:Int):=oM;have i0':(0:Int)<=(j:Int):=oM;obtain⟨k,hkd⟩:=qqe ((dirE L j).length);rw[<-hkd]at hk hXt⊢;have H:=Y11 hXl hXt hXd hX hu hu2 hp hx hE4 hkd hgq;have HW:=Y2 hw2 hq;have hut:=underlying155;clear hXl hXt hXd hX hu hu2 hp hga hca hE4 hkd hw2 hq hxj hx hgq;go_wp2_with (first
     |(refine qYy rfl _ _ rfl _ _ rfl _ _ ra hut rfl hE4s ?_)
     |(refine zk rfl _ _ _ rfl _ _ E4 rfl rfl (by rw[hE4l];rfl) hE4s hE41 ?_;refine Stop.i ?_)
     |fail)
    rw[<-HW.o.1,<-HW.o.2];unfold Stop;go_wp2_with (first
     |(refine qYy rfl _ _ rfl _ _ rfl _ _ r2 hut rfl hE4s ?_)
     |fail)
    refine H.o.2.2.2.2.2.2.1.mono ?_;rintro e w3 ⟨rfl,hb3⟩;have hu3:=uuo (S:=fun _=>False) hb3;have r3:=hu3.range r2 id;have hX3:=(H.o.2.2.2.1.keep H.o.2.2.2.2.2.1 (fun _ _ h=>h)).keep hu3 (fun _ _ h=>h);have hU3:=H.o.2.2.2.2.1.trans (((H.o.2.2.2.2.2.1).trans hu3).mono fE);have H3:=Y2 hX3 hU3;clear hX3 hU3 hu3 hb3 ra r2;cases hxd:x.d with
    |false=>
     rw[Bool.not_false];go_wp2_with fail
     go_roundg (gk-1)
     case measure=>omega
     case rel=>
      have hn:dirE L (j+1)=dirE L j:=by rw[vz hlt,<-H.o.2.2.2.2.2.2.2.1,if_neg (by rw[hxd];decide),qxx]
      have hkd:=H.o.2.2.2.2.2.2.2.2.2.1;exact⟨j+1,X,oM,oM,by go_num,by rw[hn,hkd],by rw[hn,<-hkd];omega,H.o.1,by rw[hn,<-hkd];exact H.o.2.1,fun q hq=>H.o.2.2.1 q oM,H3.o.1,H3.o.2⟩
    |true=>
     rw[Bool.not_true];have hth:w3.there g (off+k*4) E4.toArray.size:=fun i hi=>by
      obtain⟨-,⟨h1,-⟩|⟨g',off',cap',cur',h1,hg',hn',hm',hs',hc'⟩⟩:=H3.o.1
      .cases h1
      cases h1;have hi:i<4:=by simpa[hE4l]using hi
      rw[za hg',zf hg'];exact⟨by rw[qxe oM];rfl,rfl⟩
     have k0:(0:Int)<=(k:Int):=oM;have k1:(k:Int)<(L.length:Int):=oM;have hE4z:(prog.info? 155).map (·.size)=some E4.toArray.size:=by rw[qXh];exact hE4s
     have hkX:k<X.length:=by have:=H.o.1;omega
     have hE4e:=H.o.2.2.2.2.2.2.2.2.1;obtain⟨w4,hw4⟩:=qqe (w3.setCells g (off+k*4) E4);have hnew:=Sl.ent_set H3.o.1 hkX x;rw[<-hE4e,<-hw4]at hnew;have hU4:Upd (fun k=>k=g) w w4:=by rw[hw4];exact H3.o.2.trans (zo w3 g (off+k*4) E4)
     have H4:=Y2 hnew hU4;have HW4:=qqh hw4;clear hnew hU4 hw4 hE4e;go_wp2_with (first
      |(refine qYy rfl _ _ rfl _ _ rfl _ _ r3 hut rfl hE4s ?_)
      |(refine qZa rfl _ _ _ rfl _ _ E4.toArray rfl rfl hth hE4z (qYn hE41) ?_;refine Stop.i ?_)
      |fail)
     unfold Stop;show wpList _ _ _ _ _ (w3.setCells g (off+k*4) E4);rw[<-HW4.o];clear r3 hth;go_wp2_with fail
     go_roundg (gk-1)
     case measure=>omega
     case rel=>
      have hn:dirE L (j+1)=dirE L j++[x]:=by rw[vz hlt,<-H.o.2.2.2.2.2.2.2.1,if_pos hxd]
      have hkd:=H.o.2.2.2.2.2.2.2.2.2.1;have hl:(dirE L (j+1)).length=k+1:=by rw[hn,qyy,<-hkd];rfl
      refine⟨j+1,X.set k x,oM,oM,by go_num,by rw[hl];go_num,by rw[hl];omega,by rw[qze];exact H.o.1,?_,fun q hq=>?_,H4.o.1,H4.o.2⟩
      .rw [hl,qXk (by rw[qze];exact hkX),List.getElem_set_self,List.take_set_of_le (qXo _),H.o.2.1,hn]
      .rw [List.getElem?_set_ne oM];exact H.o.2.2.1 q oM
   .obtain rfl:j=L.length:=oM;obtain⟨k,hkd⟩:=qqe ((dirE L L.length).length);rw[<-hkd]at hk hXt⊢;obtain⟨hXx,⟨h1,-⟩|⟨g',off',cap',cur',h1,hg',hn',hm',hs',hc'⟩⟩:=hX
    .cases h1
    cases h1;obtain⟨w3,hrun,hu3,cur3,hg3,hz3,hc3⟩:=Ye (off:=off+k*4) (n:=L.length-k) (cap:=cap-k) hg' oM oM;have hfin:Sl w3 155 4 (.slice (some ⟨g,off,none⟩) (dirE L L.length).length cap) (dirE L L.length).length ((dirE L L.length).flatMap entC):=by
     have hle:((dirE L L.length).flatMap entC).length=(dirE L L.length).length*4:=by
      rw[<-hXt];clear hXt hXd hXx hc' hc3
      induction (List.take k X)with
      |nil=>rfl
      |cons y Y ih=>rw[qye,qyy,ih,qyz];show 4+_=_;omega
     refine⟨hle,.inr ⟨g,off,cap,cur3,rfl,hg3,oM,hm',by rw[hz3];exact hs',fun j u hj=>?_⟩⟩;have hjl:j<k*4:=by
      have:=(qyl.1 hj).1;rw[hle,<-hkd]at this;exact this
     rw[hc3 _ oM];refine hc' j u ?_;rw[<-qXi k X,qyd,hXt,qyg (by rw[hle,<-hkd];exact hjl)];exact hj
    have H3:=Y2 hfin (hu.trans hu3);have HK:=qqh hkd;have q1:¬((L.length:Int)<(L.length:Int)):=oM;have k0:(0:Int)<=(k:Int):=oM;have k1:(k:Int)<=(L.length:Int):=oM;have k2:(k:Int)<=(cap:Int):=oM;clear hfin hu hu3 hkd hXx hXt hXd hc' hc3 hg' hg3 hz3 hs';go_wp2
    go_ret
    refine⟨_,rfl,?_,rfl,H3.o.2.mono (fun j _ e=>by simp[Value.ownBlock,e])⟩;rw[HK.o];exact H3.o.1
section
variable{own own':Nat->Nat}{w w':World}{c:Nat}{n:CaN}{p:CaP}{a:CaS}
theorem TT(h:CaAt own w c n p a){v:Value}{L:List Ent}(hv:Sl w 155 4 v L.length (L.flatMap entC))(hov:∀g,v.ownBlock=some g->own g=0)(ht:a.Tie n none)
  (hr:∀x∈L,x.b<n.bl/\x.s<n.sl/\x.m<=4294967295) (hs:(L.map (·.s)).Nodup) (hb:(L.map (·.b)).Nodup) (hf:∀x∈L,a.st.getD x.s 0=0/\plc a.ps x.b=(-1,false)) (hN:a.iN+L.length<maxLen/\a.kN+L.length<maxLen/\a.mN+L.length<maxLen):
  Calls prog 144 #[ptr c,v] w (zx own w c n p (({a with G:=List.replicate n.sl Wu}:CaS).ldTo n L) (.int .i64 0)):=by
 have hs2:=h.ok.s2;obtain⟨s0,s1,s2,s3,s4,s5,s6⟩:=h.sup;have HC:=qqh h;obtain⟨a1,ha1⟩:∃a1:CaS,a1={a with G:=List.replicate n.sl Wu}:=⟨_,rfl⟩
 have ht1:a1.Tie n none:=by rw[ha1];exact ht
 have hf1:∀x∈L,a1.st.getD x.s 0=0/\plc a1.ps x.b=(-1,false):=by rw[ha1];exact hf
 have hN1:a1.iN+L.length<maxLen/\a1.kN+L.length<maxLen/\a1.mN+L.length<maxLen:=by rw[ha1];exact hN
 have HV:=Y8 hv hov ht1 hr hs hb hf1 hN1;rw[<-ha1];have HA:=qqh ha1;obtain⟨av,cv,hva⟩:=hv.rd.jU;have hLl:=hv.le;unfold maxLen at hLl;subst hva;clear h s0 s1 s3 s4 s5 s6 hv hov ht hr hs hb hf hN ht1 hf1 hN1 ha1;go_enter func144,ntmps144
 go_wp2_with fail
 go_loopw[5,15] (fun _ s15 wr=>∃k own1,k<=n.sl/\s15=.int .i64 (k:Int)/\CaAt own1 wr c n p {a with G:=tG a.G k}/\Did own own1 w wr) (fun _ s15 _=>n.sl-(intOf s15).toNat)
 case atStart=>exact⟨0,own,qXy _,rfl,by rw[Wv];exact HC.o,Did.refl HC.o.far⟩
 case round=>
  obtain⟨k,own1,hk,rfl,hca,hdid⟩:=hrel;by_cases hlt:k<n.sl
  .obtain ⟨d0,d1,d2,d3,d4,d5,d6,d7,d8⟩:=hca.cells;have HP:=qqh (Zx hca k hlt (-1) (.inl rfl));have HD:=qqh hdid;clear hca hdid d0 d1 d2 d3 d4 d5 d7 d8 s2;go_wp2_with fail
   refine HP.o.mono ?_;rintro e w1 ⟨rfl,own2,hca2,hdid2⟩;have HE:=Y2 hca2 hdid2;clear hca2 hdid2;go_wp2
   go_roundw
   case rel=>
    refine⟨k+1,own2,oM,by go_num,?_,HD.o.trans HE.o.2⟩;have:=HE.o.1;simp only[Ww (show k<a.G.length by rw[HC.o.Gl];exact hlt)]at this;exact this
   case measure=>simp[intOf];omega
  .obtain rfl:k=n.sl:=oM;have hca1:CaAt own1 wr c n p a1:=by
    rw[<-HC.o.Gl,Tf,HC.o.Gl,<-HA.o]at hca;exact hca
   have HD:=Y2 hca1 hdid;clear hca hca1 hdid s2;go_wp2_with fail
   obtain⟨wq,hwq⟩:∃x,x=wr:=⟨_,rfl⟩
   go_loopg[27] L.length (fun gk s27 wz=>∃i:Nat,i+gk=L.length/\s27=.int .i64 (i:Int)/\∃ownz,CaAt ownz wz c n p (a1.ldTo n (L.take i))/\Did own ownz w wz)
   case atStart=>exact⟨0,oM,rfl,own1,HD.o.1,HD.o.2⟩
   case round=>
    obtain⟨i,hi,rfl,ownz,hz,dz⟩:=hrel;by_cases hlt:i<L.length
    .obtain ⟨x,hx⟩:∃x,x=L[i]:=⟨_,rfl⟩
     have hxm:x∈L:=by rw[hx];exact qyu hlt
     obtain⟨r1,r2,r3⟩:=HV.o.2.2.2.1 x hxm;have hp1:=qXa.1 HV.o.2.2.2.2.1;have hp2:=qXa.1 HV.o.2.2.2.2.2.1;have hne:∀y∈L.take i,y.s≠x.s/\y.b≠x.b:=fun y hy=>by
      obtain⟨j,hj,rfl⟩:=qyv hy;rw[qzf]at hj;rw[List.getElem_take,hx];exact⟨qzz.1 hp1 j i oM hlt oM,qzz.1 hp2 j i oM hlt oM⟩
     have hld:=CaS.ldTo_ok (n:=n) (L.take i) HV.o.2.2.1 (fun y hy=>⟨(HV.o.2.2.2.1 y (List.mem_of_mem_take hy)).1,(HV.o.2.2.2.1 y (List.mem_of_mem_take hy)).2.1⟩) (HV.o.2.2.2.2.1.sublist ((List.take_sublist i L).map _)) (HV.o.2.2.2.2.2.1.sublist ((List.take_sublist i L).map _)) (fun y hy=>HV.o.2.2.2.2.2.2.1 y (List.mem_of_mem_take hy));obtain⟨f1,f2⟩:=HV.o.2.2.2.2.2.2.1 x hxm;have hnext:a1.ldTo n (L.take (i+1))=(a1.ldTo n (L.take i)).ldE n x:=by rw[qXk hlt,<-hx];unfold CaS.ldTo;rw[List.foldl_append];rfl
     obtain⟨b,hbd⟩:=qqe (a1.ldTo n (L.take i));rw[<-hbd]at hz hld hnext;have f3:b.st.getD x.s 0=0:=(hld.slt _ (fun y hy=>(hne y hy).1)).trans f1;have f4:plc b.ps x.b=(-1,false):=((hld.blk _ (fun y hy=>(hne y hy).2)).1).trans f2;obtain⟨e1,e2,-,-,-⟩:=CaS.Tie.ldE hld.tie x r1 r2 f3 f4;obtain⟨n1,n2,n3⟩:=hld.num;rw[qzf,Nat.min_eq_left oM]at n1 n2 n3;have hN:=HV.o.2.2.2.2.2.2.2;have saz:=HV.o.1.keep dz.upd (fun g hg hs=>hs.1 (HV.o.2.1 g hg));obtain⟨ga,oa,ca,ea,hga,hca⟩:=saz.rd.at oM;cases ea;have ra:=yI (enc:=entC) (m:=4) (fun _=>rfl) hca hlt;rw[<-hx]at ra;obtain⟨xb,xs,xd,xm⟩:=x;replace ra:wr.rangeAt ga (oa+i*4) [.int .i64 (xb:Int),.int .i64 (xs:Int),.bool xd,.int .i64 (xm:Int)]:=ra;simp only at r1 r2 r3 e1 e2 f3 f4;obtain⟨E4,hE4⟩:∃E4:List Value,E4=[.int .i64 (xb:Int),.int .i64 (xs:Int),.bool xd,.int .i64 (xm:Int)]:=⟨_,rfl⟩
     have hE41:∀v∈E4,v.oneCell'=true:=by rw[hE4];intro v hv;simp at hv;rcases hv with rfl|rfl|rfl|rfl<;>rfl
     have hE4l:E4.length=4:=by rw[hE4];rfl
     have hE4s:(prog.info? 155).map (·.size)=some E4.length:=by rw[hE4l];exact Yc
     rw[<-hE4]at ra;obtain⟨m,hm⟩:=qqe (wr.heap.size);obtain⟨w2,hw2⟩:=qqe (wr.alloc (.cells E4.toArray 155));have hu2:=qqu hw2;have g2:w2.heap[m]?=some (.cells E4.toArray 155 (0,0)):=by rw[hw2,hm];exact zc wr _ rfl
     have om:ownz m=0:=hz.far m oM;have ud:=(uur (fun _=>False) w2).drew;have h2:=hz.new (hu2.trans ud);have d2:=dz.trans (hz.jY (hu2.trans ud));have gd2:=ud.jT g2;obtain⟨w2d,hw2d⟩:=qqe (w2.drew);rw[<-hw2d]at h2 d2 gd2;have hput:∀W,Upd (fun _=>False) w2d W->Calls prog 213 #[ptr p.ix,.int .i64 (xb:Int),zN (xs:Int) xd] W (zx ownz W c n p {b with iN:=b.iN+1,ps:=vN b.ps n.sl (xb:Int) (xs:Int) xd} (.tuple #[zN (-1) false,.int .i64 0])):=fun W hu=>by
      have:=Rr (h2.new hu) (xb:Int) (xs:Int) xd oM;rw[e1,e2]at this;exact this
     have q1:(i:Int)<(L.length:Int):=oM;have i0:(0:Int)<=(i:Int):=oM;obtain⟨-,-,-,-,c18,-,-,-,-⟩:=h2.cells;have z0:w2d.cell? ⟨m,0,none⟩=some (.int .i64 (xb:Int)):=by rw[za gd2,hE4];rfl
     have z1:w2d.cell? ⟨m,1,none⟩=some (.int .i64 (xs:Int)):=by rw[za gd2,hE4];rfl
     have z2:w2d.cell? ⟨m,2,none⟩=some (.bool xd):=by rw[za gd2,hE4];rfl
     have HW:=Y3 hw2 hm hw2d;have H2:=Y6 h2 d2 gd2 om hE4 hput;have HE:=Y8 hnext r1 r2 r3 n1 n2 n3 hN;have hutE:=underlying155;have hutP:=underlying256;clear hz dz hlt hx hxm r1 r2 r3 hp1 hp2 hne hld f1 f2 hnext hbd f3 f4 e1 e2 n1 n2 n3 hN saz hga hca hE4 hm hw2 hu2 g2 om ud h2 d2 gd2 hput hw2d;go_wp2_with (first
      |(refine qYy rfl _ _ rfl _ _ rfl _ _ ra hutE rfl hE4s ?_)
      |(refine zk rfl _ _ _ rfl _ _ E4 rfl rfl (by rw[hE4l];rfl) hE4s hE41 ?_;refine Stop.i ?_)
      |fail)
     rw[<-HW.o.1,<-HW.o.2.1];unfold Stop;go_upto_region 9 with fail
     go_cut [8,9] (fun s8 s9 wx=>∃q ownx,s8=.pointer (some ⟨q,0,none⟩)/\s9=.int .i64 0/\wx.rangeAt q 0 [.int .i64 (-1),.bool false]/\CaAt ownx wx c n p {b with iN:=b.iN+1,ps:=vN b.ps n.sl (xb:Int) (xs:Int) xd}/\Did own ownx w wx/\wx.heap[m]?=some (.cells E4.toArray 155 (0,0))/\ownx m=0/\ownx q=0)
     case first=>
      refine qZb (S:=fun W=>W.cell? ⟨c,18,none⟩=some (ptr p.ix)/\W.cell? ⟨m,0,none⟩=some (.int .i64 (xb:Int))/\W.cell? ⟨m,1,none⟩=some (.int .i64 (xs:Int))/\W.cell? ⟨m,2,none⟩=some (.bool xd)) kR (by rw[<-HW.o.2.2];exact⟨c18,z0,z1,z2⟩) (fun hHeld=>?_);rw[<-HW.o.2.2]at hHeld⊢;refine Wl.i [0,1,2,3,4,5,6,7,8,9,10] ?_;iterate 11 refine Wl.t hHeld ?_
      refine Wl.o ?_;refine qYw (rs:=[11,15]) kR oe ?_;refine qxb rfl (fun K hK=>?_) (qxb rfl (fun K hK=>?_) qxc)
      .go_simp
       refine(H2.o.2.2.2.2.2 _ (uur _ _)).mono ?_;rintro e w3 ⟨rfl,own3,h3,d3⟩;have gd3:=yL d3 H2.o.2.2.1 H2.o.2.2.2.1;obtain⟨-,-,-,-,k18,-,-,-,-⟩:=h3.cells;have hS3:w3.cell? ⟨c,18,none⟩=some (ptr p.ix)/\w3.cell? ⟨m,0,none⟩=some (.int .i64 (xb:Int))/\w3.cell? ⟨m,1,none⟩=some (.int .i64 (xs:Int))/\w3.cell? ⟨m,2,none⟩=some (.bool xd):=by
        rw[za gd3.1,za gd3.1,za gd3.1,H2.o.2.2.2.2.1];exact⟨k18,rfl,rfl,rfl⟩
       refine hK.o _ _ hS3 (fun _=>?_);clear hK K;refine Wl.i [12,13,14] ?_;iterate 3 refine Wl.t hS3 ?_
       refine Wl.o ?_;refine Wl.r 15 (fun K hK=>?_);go_simp
       obtain⟨q,hq⟩:=qqe (w3.heap.size);obtain⟨w4,hw4⟩:=qqe (w3.alloc (.cells #[.int .i64 0,.bool false] 256));rw[<-hw4,<-hq];have hu4:=qqu hw4;have g4:w4.heap[q]?=some (.cells #[.int .i64 0,.bool false] 256 (0,0)):=by rw[hw4,hq];exact zc w3 _ rfl
       have oq:own3 q=0:=h3.far q oM;have gm4:=hu4.jT gd3.1;refine hK.o _ _ ⟨hu4.jS hS3.1 id,hu4.jS hS3.2.1 id,hu4.jS hS3.2.2.1 id,hu4.jS hS3.2.2.2 id⟩ (fun _=>?_);clear hK K;refine Wl.r 16 (fun K hK=>?_);rw[if_pos oy];refine qZc _ _ _ rfl _ _ #[.int .i64 (-1),.bool false] rfl rfl (fun j hj=>by rw[za g4,zf g4,qXx];exact⟨by rw[qxe oz];rfl,rfl⟩) Yd (qYn jn) ?_;simp only[Act.put,qXd];have r5:(w4.setCells q 0 [.int .i64 (-1),.bool false]).rangeAt q 0 [.int .i64 (-1),.bool false]:=qYk _ _ _ _ (fun j hj=>by rw[za g4,zf g4,qXx];exact⟨by rw[qxe oz];rfl,rfl⟩);have hus:=zo w4 q 0 [.int .i64 (-1),.bool false];have h4:=h3.new hu4;have d4:=d3.trans (h3.jY hu4);have hqm:q≠m:=fun e=>by have:=zd gd3.1;omega
       have hqc:c≠q:=fun e=>by have:=h3.clt;omega
       have hn1:=h3.nib.lt;have hn2:=h3.tur.lt;have h5:=h4.j9 hus (fun j e=>by subst e;exact⟨oq,oM,oM⟩);have d5:Did ownz own3 w2d (w4.setCells q 0 [.int .i64 (-1),.bool false]):=⟨d4.upd.new hus (fun i hi e=>by have:=d3.upd.size;omega),d4.old,d4.new,fun j hj=>d4.far j (by have:=hus.size;omega)⟩
       have gm5:=(hus.block m (zd gm4) (fun e=>hqm e.symm)).trans gm4;refine hK.o _ _ ⟨hus.jS (hu4.jS hS3.1 id) hqc,hus.jS (hu4.jS hS3.2.1 id) (fun e=>hqm e.symm),hus.jS (hu4.jS hS3.2.2.1 id) (fun e=>hqm e.symm),hus.jS (hu4.jS hS3.2.2.2 id) (fun e=>hqm e.symm)⟩ (fun hS5=>?_);clear hK K;generalize w4.setCells q 0 [.int .i64 (-1),.bool false]=w5 at*;refine Wl.i [17] ?_;iterate 1 refine Wl.t hS5 ?_
       refine Wl.o ?_;refine Wl.d ?_;go_wp2_with fail
       go_meet
       case rel=>exact⟨q,own3,rfl,rfl,r5,h5,H2.o.2.1.trans d5,gm5,gd3.2,oq⟩
      .go_simp
       obtain⟨q,hq⟩:=qqe (w2d.heap.size);obtain⟨w4,hw4⟩:=qqe (w2d.alloc (.cells #[.int .i64 0,.bool false] 256));rw[<-hw4,<-hq];have hu4:=qqu hw4;have g4':w4.heap[q]?=some (.cells #[.int .i64 0,.bool false] 256 (0,0)):=by rw[hw4,hq];exact zc w2d _ rfl
       have oq':ownz q=0:=H2.o.1.far q oM;have gm4':=hu4.jT H2.o.2.2.1;have hqm:q≠m:=fun e=>by have:=zd H2.o.2.2.1;omega
       have hqc:c≠q:=fun e=>by have:=H2.o.1.clt;omega
       have hn1:=H2.o.1.nib.lt;have hn2:=H2.o.1.tur.lt;have hput:=H2.o.2.2.2.2.2 w4 hu4;have dw:=H2.o.1.jY hu4;refine hK.o _ _ ⟨hu4.jS hHeld.1 id,hu4.jS hHeld.2.1 id,hu4.jS hHeld.2.2.1 id,hu4.jS hHeld.2.2.2 id⟩ (fun _=>?_);clear hK K;have HQ:=qqh hq;clear hw4 hq;refine Wl.r 11 (fun K hK=>?_);go_simp
       refine hput.mono ?_;rintro e w3 ⟨rfl,own3,h3,d3⟩;have gd3:=yL d3 gm4' H2.o.2.2.2.1;have gq3:=yL d3 g4' oq';obtain⟨-,-,-,-,k18,-,-,-,-⟩:=h3.cells;have hS3:w3.cell? ⟨c,18,none⟩=some (ptr p.ix)/\w3.cell? ⟨m,0,none⟩=some (.int .i64 (xb:Int))/\w3.cell? ⟨m,1,none⟩=some (.int .i64 (xs:Int))/\w3.cell? ⟨m,2,none⟩=some (.bool xd):=by
        rw[za gd3.1,za gd3.1,za gd3.1,H2.o.2.2.2.2.1];exact⟨k18,rfl,rfl,rfl⟩
       refine hK.o _ _ hS3 (fun _=>?_);clear hK K;refine Wl.i [12,13,14] ?_;iterate 3 refine Wl.t hS3 ?_
       refine Wl.o ?_;refine Wl.r 16 (fun K hK=>?_);rw[if_pos oy];refine qZc _ _ _ rfl _ _ #[.int .i64 (-1),.bool false] rfl rfl (fun j hj=>by rw[za gq3.1,zf gq3.1,qXx];exact⟨by rw[qxe oz];rfl,rfl⟩) Yd (qYn jn) ?_;simp only[Act.put,qXd];have r5:(w3.setCells q 0 [.int .i64 (-1),.bool false]).rangeAt q 0 [.int .i64 (-1),.bool false]:=qYk _ _ _ _ (fun j hj=>by rw[za gq3.1,zf gq3.1,qXx];exact⟨by rw[qxe oz];rfl,rfl⟩);have hus:=zo w3 q 0 [.int .i64 (-1),.bool false];have h5:=h3.j9 hus (fun j e=>by subst e;have:=HQ.o;exact⟨gq3.2,oM,oM⟩);have d4:=dw.trans d3;have d5:Did ownz own3 w2d (w3.setCells q 0 [.int .i64 (-1),.bool false]):=⟨d4.upd.new hus (fun i hi e=>by have:=HQ.o;omega),d4.old,d4.new,fun j hj=>d4.far j (by have:=hus.size;omega)⟩
       have gm5:=(hus.block m (zd gd3.1) (fun e=>hqm e.symm)).trans gd3.1;refine hK.o _ _ ⟨hus.jS hS3.1 hqc,hus.jS hS3.2.1 (fun e=>hqm e.symm),hus.jS hS3.2.2.1 (fun e=>hqm e.symm),hus.jS hS3.2.2.2 (fun e=>hqm e.symm)⟩ (fun hS5=>?_);clear hK K;generalize w3.setCells q 0 [.int .i64 (-1),.bool false]=w5 at*;refine Wl.i [17] ?_;iterate 1 refine Wl.t hS5 ?_
       refine Wl.o ?_;refine Wl.d ?_;go_wp2_with fail
       go_meet
       case rel=>exact⟨q,own3,rfl,rfl,r5,h5,H2.o.2.1.trans d5,gm5,gd3.2,gq3.2⟩
     case rest=>
      obtain⟨q,own5,rfl,rfl,r5,h5,d5,gm5,om5,oq5⟩:=hcut;have H5:=Y5 h5 d5 gm5 om5 oq5;have hneq:∀W:World,(binOp .neq 256 (.agg #[.int .i64 (-1),.bool false]) (.agg #[.int .i64 (-1),.bool false])).run prog W=.ok (.bool false) W:=fun W=>by rw[rW];rfl
      clear h5 d5 gm5 om5 oq5 ra z0 z1 z2 c18;go_wp2_with (first
       |(refine uP oy _ _ rfl _ _ rfl _ _ r5 hutP rfl Yd ?_)
       |fail)
      have H5b:=Y4 H5.o.1 H5.o.2.1 H5.o.2.2.1 H5.o.2.2.2.1;clear r5 hneq;replace H5:=H5b;clear H5b;have ud:=(uur (fun _=>False) wc).drew;have hx:=H5.o.1.new ud;have gx:=ud.jT H5.o.2.2.1;have D5:=qqh (H5.o.2.1.trans (H5.o.1.jY ud));have hSx:(fun W:World=>W.cell? ⟨c,19,none⟩=some (ptr p.ss)/\W.cell? ⟨m,1,none⟩=some (.int .i64 (xs:Int))) wc.drew:=by
        obtain⟨-,-,-,d17,d18,d19,d20,d21,d22⟩:=hx.cells;exact⟨d19,by rw[za gx,H2.o.2.2.2.2.1];rfl⟩
      have HC5:=qqh (yX hx (xs:Int) 1);have HX5:=qqh gx;clear ud hx gx;go_wp2_with fail
      refine qZb (S:=fun W=>W.cell? ⟨c,19,none⟩=some (ptr p.ss)/\W.cell? ⟨m,1,none⟩=some (.int .i64 (xs:Int))) kR hSx (fun hHeld=>?_);clear hSx;refine Wl.i [0,1,2,3,4,5] ?_;iterate 6 refine Wl.t hHeld ?_
      refine Wl.o ?_;refine Wl.r 6 (fun K hK=>?_);go_simp
      refine HC5.o.mono ?_;rintro e w6 ⟨rfl,own6,h6,d6⟩;have gd:=yL d6 HX5.o H5.o.2.2.2;have hS2:(fun W:World=>W.cell? ⟨c,19,none⟩=some (ptr p.ss)/\W.cell? ⟨m,1,none⟩=some (.int .i64 (xs:Int))) w6:=by
        obtain⟨-,-,-,d17,d18,d19,d20,d21,d22⟩:=h6.cells;exact⟨d19,by rw[za gd.1,H2.o.2.2.2.2.1];rfl⟩
      refine hK.o _ _ hS2 (fun _=>?_);clear hK K hHeld hS2;refine Wl.d ?_;have H6:=Y3 h6 (D5.out.trans d6) gd;clear h6 d6 gd;have ud:=(uur (fun _=>False) w6).drew;have hx:=H6.o.1.new ud;have gx:=ud.jT H6.o.2.2.1;have D6:=qqh (H6.o.2.1.trans (H6.o.1.jY ud));have hSx:(fun W:World=>W.cell? ⟨c,19,none⟩=some (ptr p.ss)/\W.cell? ⟨m,1,none⟩=some (.int .i64 (xs:Int))) w6.drew:=by
        obtain⟨-,-,-,d17,d18,d19,d20,d21,d22⟩:=hx.cells;exact⟨d19,by rw[za gx,H2.o.2.2.2.2.1];rfl⟩
      have HC6:=qqh (yX hx (xs:Int) 2);have HX6:=qqh gx;clear ud hx gx;go_wp2_with fail
      refine qZb (S:=fun W=>W.cell? ⟨c,19,none⟩=some (ptr p.ss)/\W.cell? ⟨m,1,none⟩=some (.int .i64 (xs:Int))) kR hSx (fun hHeld=>?_);clear hSx;refine Wl.i [0,1,2,3,4,5] ?_;iterate 6 refine Wl.t hHeld ?_
      refine Wl.o ?_;refine Wl.r 6 (fun K hK=>?_);go_simp
      refine HC6.o.mono ?_;rintro e w7 ⟨rfl,own7,h7,d7⟩;have gd:=yL d7 HX6.o H6.o.2.2.2;have hS2:(fun W:World=>W.cell? ⟨c,19,none⟩=some (ptr p.ss)/\W.cell? ⟨m,1,none⟩=some (.int .i64 (xs:Int))) w7:=by
        obtain⟨-,-,-,d17,d18,d19,d20,d21,d22⟩:=h7.cells;exact⟨d19,by rw[za gd.1,H2.o.2.2.2.2.1];rfl⟩
      refine hK.o _ _ hS2 (fun _=>?_);clear hK K hHeld hS2;refine Wl.d ?_;have H7:=Y3 h7 (D6.out.trans d7) gd;clear h7 d7 gd;have ud:=(uur (fun _=>False) w7).drew;have hx:=H7.o.1.new ud;have gx:=ud.jT H7.o.2.2.1;have D7:=qqh (H7.o.2.1.trans (H7.o.1.jY ud));have hSx:(fun W:World=>W.cell? ⟨c,20,none⟩=some (ptr p.lg)/\W.cell? ⟨m,1,none⟩=some (.int .i64 (xs:Int))) w7.drew:=by
        obtain⟨-,-,-,d17,d18,d19,d20,d21,d22⟩:=hx.cells;exact⟨d20,by rw[za gx,H2.o.2.2.2.2.1];rfl⟩
      have HC7:=qqh (Te hx xs HE.o.2.2.1);have HX7:=qqh gx;clear ud hx gx;go_wp2_with fail
      refine qZb (S:=fun W=>W.cell? ⟨c,20,none⟩=some (ptr p.lg)/\W.cell? ⟨m,1,none⟩=some (.int .i64 (xs:Int))) kR hSx (fun hHeld=>?_);clear hSx;refine Wl.i [0,1,2,3,4,5] ?_;iterate 6 refine Wl.t hHeld ?_
      refine Wl.o ?_;refine Wl.r 6 (fun K hK=>?_);go_simp
      refine HC7.o.mono ?_;rintro e w8 ⟨rfl,own8,h8,d8⟩;have gd:=yL d8 HX7.o H7.o.2.2.2;have hS2:(fun W:World=>W.cell? ⟨c,20,none⟩=some (ptr p.lg)/\W.cell? ⟨m,1,none⟩=some (.int .i64 (xs:Int))) w8:=by
        obtain⟨-,-,-,d17,d18,d19,d20,d21,d22⟩:=h8.cells;exact⟨d20,by rw[za gd.1,H2.o.2.2.2.2.1];rfl⟩
      refine hK.o _ _ hS2 (fun _=>?_);clear hK K hHeld hS2;refine Wl.d ?_;have H8:=Y3 h8 (D7.out.trans d8) gd;clear h8 d8 gd;have ud:=(uur (fun _=>False) w8).drew;have hx:=H8.o.1.new ud;have gx:=ud.jT H8.o.2.2.1;have D8:=qqh (H8.o.2.1.trans (H8.o.1.jY ud));have hSx:(fun W:World=>W.cell? ⟨c,20,none⟩=some (ptr p.lg)/\W.cell? ⟨m,1,none⟩=some (.int .i64 (xs:Int))/\W.cell? ⟨m,0,none⟩=some (.int .i64 (xb:Int))) w8.drew:=by
        obtain⟨-,-,-,d17,d18,d19,d20,d21,d22⟩:=hx.cells;exact⟨d20,by rw[za gx,H2.o.2.2.2.2.1];rfl,by rw[za gx,H2.o.2.2.2.2.1];rfl⟩
      have HC8:=qqh (Zx hx xs HE.o.2.2.1 (xb:Int) (.inr ⟨oM,by have:=HE.o.2.1;omega⟩));have HX8:=qqh gx;clear ud hx gx;go_wp2_with fail
      refine qZb (S:=fun W=>W.cell? ⟨c,20,none⟩=some (ptr p.lg)/\W.cell? ⟨m,1,none⟩=some (.int .i64 (xs:Int))/\W.cell? ⟨m,0,none⟩=some (.int .i64 (xb:Int))) kR hSx (fun hHeld=>?_);clear hSx;refine Wl.i [0,1,2,3,4,5,6,7] ?_;iterate 8 refine Wl.t hHeld ?_
      refine Wl.o ?_;refine Wl.r 8 (fun K hK=>?_);go_simp
      refine HC8.o.mono ?_;rintro e w9 ⟨rfl,own9,h9,d9⟩;have gd:=yL d9 HX8.o H8.o.2.2.2;have hS2:(fun W:World=>W.cell? ⟨c,20,none⟩=some (ptr p.lg)/\W.cell? ⟨m,1,none⟩=some (.int .i64 (xs:Int))/\W.cell? ⟨m,0,none⟩=some (.int .i64 (xb:Int))) w9:=by
        obtain⟨-,-,-,d17,d18,d19,d20,d21,d22⟩:=h9.cells;exact⟨d20,by rw[za gd.1,H2.o.2.2.2.2.1];rfl,by rw[za gd.1,H2.o.2.2.2.2.1];rfl⟩
      refine hK.o _ _ hS2 (fun _=>?_);clear hK K hHeld hS2;refine Wl.d ?_;have H9:=Y3 h9 (D8.out.trans d9) gd;clear h9 d9 gd;have ud:=(uur (fun _=>False) w9).drew;have hx:=H9.o.1.new ud;have gx:=ud.jT H9.o.2.2.1;have D9:=qqh (H9.o.2.1.trans (H9.o.1.jY ud));have hSx:(fun W:World=>W.cell? ⟨c,21,none⟩=some (ptr p.ck)/\W.cell? ⟨m,0,none⟩=some (.int .i64 (xb:Int))) w9.drew:=by
        obtain⟨-,-,-,d17,d18,d19,d20,d21,d22⟩:=hx.cells;exact⟨d21,by rw[za gx,H2.o.2.2.2.2.1];rfl⟩
      have HC9:=qqh (VR hx (xb:Int) (by have:=HE.o.2.1;have:=HC.o.ok.b2;unfold InR;omega) (by show b.kN<maxLen;have h1:=HE.o.2.2.2.2.2.1;have h2:=HE.o.2.2.2.2.2.2.2;omega));have HX9:=qqh gx;clear ud hx gx;go_wp2_with fail
      refine qZb (S:=fun W=>W.cell? ⟨c,21,none⟩=some (ptr p.ck)/\W.cell? ⟨m,0,none⟩=some (.int .i64 (xb:Int))) kR hSx (fun hHeld=>?_);clear hSx;refine Wl.i [0,1,2,3,4,5] ?_;iterate 6 refine Wl.t hHeld ?_
      refine Wl.o ?_;refine Wl.r 6 (fun K hK=>?_);go_simp
      refine HC9.o.mono ?_;rintro e w10 ⟨rfl,own10,h10,d10⟩;have gd:=yL d10 HX9.o H9.o.2.2.2;have hS2:(fun W:World=>W.cell? ⟨c,21,none⟩=some (ptr p.ck)/\W.cell? ⟨m,0,none⟩=some (.int .i64 (xb:Int))) w10:=by
        obtain⟨-,-,-,d17,d18,d19,d20,d21,d22⟩:=h10.cells;exact⟨d21,by rw[za gd.1,H2.o.2.2.2.2.1];rfl⟩
      refine hK.o _ _ hS2 (fun _=>?_);clear hK K hHeld hS2;refine Wl.d ?_;have H10:=Y3 h10 (D9.out.trans d10) gd;clear h10 d10 gd;have ud:=(uur (fun _=>False) w10).drew;have hx:=H10.o.1.new ud;have gx:=ud.jT H10.o.2.2.1;have D10:=qqh (H10.o.2.1.trans (H10.o.1.jY ud));have hSx:(fun W:World=>W.cell? ⟨c,22,none⟩=some (.map (some p.sm))/\W.cell? ⟨m,0,none⟩=some (.int .i64 (xb:Int))/\W.cell? ⟨m,3,none⟩=some (.int .i64 (xm:Int))) w10.drew:=by
        obtain⟨-,-,-,d17,d18,d19,d20,d21,d22⟩:=hx.cells;exact⟨d22,by rw[za gx,H2.o.2.2.2.2.1];rfl,by rw[za gx,H2.o.2.2.2.2.1];rfl⟩
      obtain⟨w11,own11,hrun,h11,d11⟩:=Xh hx (x:=(xb:Int)) oM (by have:=HE.o.2.1;have:=HC.o.ok.b2;omega) xm (by have:=HE.o.2.2.2.1;omega) (by show b.mN<maxLen;have h1:=HE.o.2.2.2.2.2.2.1;have h2:=HE.o.2.2.2.2.2.2.2;omega);have HX10:=qqh gx;have hS2:(fun W:World=>W.cell? ⟨c,22,none⟩=some (.map (some p.sm))/\W.cell? ⟨m,0,none⟩=some (.int .i64 (xb:Int))/\W.cell? ⟨m,3,none⟩=some (.int .i64 (xm:Int))) w11:=by
       have gd:=yL d11 gx H10.o.2.2.2;obtain⟨-,-,-,d17,d18,d19,d20,d21,d22⟩:=h11.cells;exact⟨d22,by rw[za gd.1,H2.o.2.2.2.2.1];rfl,by rw[za gd.1,H2.o.2.2.2.2.1];rfl⟩
      have H11:=Y2 h11 (D10.out.trans d11);clear ud hx gx h11 d11;go_wp2_with fail
      refine qZb (S:=fun W=>W.cell? ⟨c,22,none⟩=some (.map (some p.sm))/\W.cell? ⟨m,0,none⟩=some (.int .i64 (xb:Int))/\W.cell? ⟨m,3,none⟩=some (.int .i64 (xm:Int))) kR hSx (fun hHeld=>?_);clear hSx;refine Wl.i [0,1,2,3,4,5,6,7] ?_;iterate 8 refine Wl.t hHeld ?_
      refine Wl.o ?_;refine Wl.r 8 (fun K hK=>?_);go_simp
      refine hK.o _ _ hS2 (fun _=>?_);clear hK K hHeld hS2 hrun;refine Wl.d ?_;go_wp2_with fail
      go_roundg (gk-1)
      case measure=>omega
      case rel=>exact⟨i+1,oM,by go_num,own11,by rw[HE.o.1];exact H11.o.1,H11.o.2⟩
    .obtain rfl:i=L.length:=oM;have q1:¬((L.length:Int)<(L.length:Int)):=oM;rw[List.take_length]at hz;have HZ:=Y2 hz dz;clear hz dz hlt;go_wp2
     go_ret
     exact⟨rfl,ownz,HZ.o.1,HZ.o.2⟩
end
def sa(n:CaN)(L:List Ent):Prop:=(∀x∈L,x.b<n.bl/\x.s<n.sl/\x.m<=4294967295)/\(L.map (·.s)).Nodup/\L.Pairwise (fun x y=>x.b<y.b)
def zcW(E:Nat->List Ent)(top i:Nat)(y:Bk):Prop:=okP y=false\/∃s,s<=top/\i<needN (E s).length/\y=sectP (pageXs s (needN (E s).length) (E s) i)
def JOk(jo:Nat)(R:Nat->List Int)(f0 top j:Nat)(y:Bk):Prop:=y=zB\/∃t,f0<t/\t<=top/\(t-1)%jo=j/\y=sectR (R t)
def Sx(L:List Ent):Int->Option EI:=apM (L.map Ent.toI)
abbrev CaN.jb(n:CaN):Nat:=1+2*n.pa
def OOk(n:CaN)(wh:Nat)(E:Nat->List Ent)(R:Nat->List Int)(com fp:Nat)(q:Nat×Bk):Prop:=
 (∃i,i<n.pa/\q.1=1+(1-wh)*n.pa+i/\zcW E fp i q.2)\/(∃t,com<t/\t<=fp/\q=(n.jb+(t-1)%n.jo,sectR (R t)))\/n.j8<=q.1
structure Hs(n:CaN)(Z:Nat->Bk)(a:CaS)(E:Nat->List Ent)(R:Nat->List Int)(f0 com fp:Nat):Prop where
 pl:Pl a.dP
 dl:a.dF.length=n.size
 f1:f0<=a.cov
 c1:a.cov<=com
 c2:com+a.W.length+1=a.next
 c3:com<=fp
 c4:fp+1<=a.next
 c5:a.next<=a.cov+n.jo+1
 wh:a.which<=1
 wq:∀i,i<a.W.length->a.W[i]?=some (com+1+i,sectR (R (com+1+i)))
 rc:∀t,f0<t->t<a.next->((R t).length=7/\mayR (R t)=true/\(R t).getD 0 0=(t:Int)/\(R t).getD 1 0=(((t-1)/n.jo:Nat):Int))/\Sx (E t)=apR (Sx (E (t-1))) (R t)
 en:∀t,t<a.next->sa n (E t)
 cur:E (a.next-1)=a.ents n
 fx:∀s,s=0\/(n.jb+n.jo<=s/\s<n.j8)->a.dF.getD s zB=Z s
 o0:∀q∈a.dO,OOk n a.which E R com fp q
 sd:∀i,i<n.pa->a.dF.getD (1+a.which*n.pa+i) zB=(pagesB a.cov (E a.cov)).getD i zB
 so:∀i,i<n.pa->zcW E fp i (a.dF.getD (1+(1-a.which)*n.pa+i) zB)
 jr:∀j,j<n.jo->JOk n.jo R f0 fp j (a.dF.getD (n.jb+j) zB)
 jw:∀t,a.cov<t->t<=com->a.dF.getD (n.jb+(t-1)%n.jo) zB=sectR (R t)
 sl:∀t,com<=t->t<a.next->∀x∈E t,(a.st.getD x.s 0=2\/a.st.getD x.s 0=3)/\crcC (curB a.dF a.dO (n.j8+x.s))=x.m
 sf:∀t,com<=t->t<=fp->∀x∈E t,crcC (a.dF.getD (n.j8+x.s) zB)=x.m
theorem Uo{l:List EI}(hn:(l.map EI.b).Nodup){s:Int}{e:EI}:apM l s=some e↔e∈l/\e.b=s:=by
 have:∀(l:List EI),(l.map EI.b).Nodup->∀(f:Int->Option EI),(l.foldl apPut f) s=some e↔(e∈l/\e.b=s)\/(s∉l.map EI.b/\f s=some e):=by
  intro l
  induction l with
  |nil=>intro _ f;simp
  |cons x l ih=>
   intro hn f;rw[qzh,qzw]at hn;rw[List.foldl_cons,ih hn.2];unfold apPut;by_cases hs:s=x.b
   .subst hs;constructor
    .rintro (h|⟨h1,h2⟩)
     .exact .inl ⟨qzn _ h.1,h.2⟩
     .rw [if_pos rfl]at h2;cases h2;exact .inl ⟨qzo,rfl⟩
    .rintro (⟨h1,h2⟩|⟨h1,-⟩)
     .rcases qzm.1 h1 with rfl|h1
      .exact .inr ⟨hn.1,if_pos rfl⟩
      .exact .inl ⟨h1,h2⟩
     .exact absurd oe h1
   .rw [if_neg hs];constructor
    .rintro (h|⟨h1,h2⟩)
     .exact .inl ⟨qzn _ h.1,h.2⟩
     .refine .inr ⟨?_,h2⟩;rw[qzh,qzm];exact fun h=>h.elim hs h1
    .rintro (⟨h1,h2⟩|⟨h1,h2⟩)
     .rcases qzm.1 h1 with rfl|h1
      .exact absurd h2.symm hs
      .exact .inl ⟨h1,h2⟩
     .refine .inr ⟨fun h=>h1 ?_,h2⟩;rw[qzh];exact qzn _ h
 simpa[apM]using this l hn (fun _=>none)
theorem Up{α:Type}(f:α->Int):∀{L L':List α},L.Pairwise (fun x y=>f x<f y)->L'.Pairwise (fun x y=>f x<f y)->(∀x,x∈L↔x∈L')->L=L'
 |[],[],_,_,_=>rfl
 |[],y::L',_,_,h=>by cases (h y).2 qzo
 |x::L,[],_,_,h=>by cases (h x).1 qzo
 |x::L,y::L',h1,h2,h=>by
  rw[List.pairwise_cons]at h1 h2;have exy:x=y:=by
   rcases qzm.1 ((h x).1 qzo)with e|hx
   .exact e
   .rcases qzm.1 ((h y).2 qzo)with e|hy
    .exact e.symm
    .have:=h1.1 y hy;have:=h2.1 x hx;omega
  subst exy
  congr 1
  refine Up f h1.2 h2.2 (fun z=>⟨fun hz=>?_,fun hz=>?_⟩)
  .rcases qzm.1 ((h z).1 (qzn _ hz))with rfl|hz'
   .have:=h1.1 _ hz;omega
   .exact hz'
  .rcases qzm.1 ((h z).2 (qzn _ hz))with rfl|hz'
   .have:=h2.1 _ hz;omega
   .exact hz'
end Go.Proofs.YtpejdgiccaijfaaGreatDoor
