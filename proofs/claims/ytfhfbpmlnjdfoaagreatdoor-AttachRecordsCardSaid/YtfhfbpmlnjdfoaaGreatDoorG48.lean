/- attach.Apply. attach.Entries. What Entries tel -/
import Derived.Test.YtfhfbpmlnjdfoaaGreatDoorG47
set_option maxRecDepth 100000
set_option maxHeartbeats 4000000
namespace Go.Proofs.YtfhfbpmlnjdfoaaGreatDoor
open Go Go.RowKit Go.Shelf Go.Lib
theorem SZ(w:World):(zeroValue 37).run Tryz.prog w=.ok EI.zero.enc w:=by kernel_rfl
theorem Zv:(Tryz.prog.info? 37).map (·.size)=some 4:=by kernel_rfl
theorem EE(b s:Int)(d:Bool)(x:Int)(W:World):(Instr.build 37 #[(0,.int .i64 b),(1,.int .i64 s),(2,.bool d),(3,.int .i64 x)]).run Tryz.prog W=.ok (.agg #[.int .i64 b,.int .i64 s,.bool d,.int .i64 x]) W:=by
 kernel_rfl
def AW(w:World)(l:List EI)(rs:List (List Int))(e:Ending)(w':World):Prop:=
 ∃(v:Value) (L:List EI) (c:Int),e=.returned (.tuple #[v,.int .i64 c])/\Sl w' 37 4 v L.length (L.flatMap EI.cs)/\From w.heap.size v/\Below w.heap.size w w'/\
  ((c=12/\L=[]/\(¬(l.map EI.b).Nodup\/∃L0,Lists (apRs (apM l) rs) L0/\¬(L0.map EI.s).Nodup))\/
   (c=0/\(l.map EI.b).Nodup/\Lists (apRs (apM l) rs) L/\(L.map EI.s).Nodup/\L.Pairwise (fun x y=>x.b<y.b)))
theorem EF{w:World}{v u:Value}{l:List EI}{rs:List (List Int)}(hs:Rd w 4 v l.length (l.flatMap EI.cs))(hr:Rd w 7 u rs.length (rs.flatMap dsR))(hl1:l.length<=65536)(hr1:rs.length<=65536)
  (hl:∀e∈l,Rp e.b/\Rp e.s) (hrr:∀r∈rs,Rp (r.getD 3 0)/\Rp (r.getD 4 0)):
  Calls Tryz.prog 12 #[v,u] w (AW w l rs):=by
 obtain⟨ao,cap,rfl⟩:=hs.nil_iff;obtain⟨bo,cbp,rfl⟩:=hr.nil_iff;have hmm:= @run_makeMap Tryz.prog;obtain⟨M,hM⟩:=qqe (w.heap.size);obtain⟨w1,hw1⟩:=qqe (w.alloc (.map #[] 0));have hb1:Below w.heap.size w w1:=by rw[hw1];exact(qxl _ w).alloc (qXv _) _
 have hm1:MapG EI.enc w1 M 0 (apM []):=by rw[hw1,hM];exact MapG.made w
 have z1:w1.heap.size=M+1:=by rw[hw1,hM];simp
 have HW:=Y2 hw1 hM;have H:=Y7 hs hr hl hrr hb1 hm1 z1;clear hs hr hl hrr hb1 hm1 z1 hw1 hM;go_enter Tryz.func12,Tryz.ntmps12
 go_wp2_with fail
 rw[<-HW.o.1,<-HW.o.2];clear hmm;go_loopg[20] l.length (fun gk s20 wr=>∃k:Nat,k+gk=l.length/\s20=.int .i64 (k:Int)/\MapG EI.enc wr M k (apM (l.take k))/\((l.take k).map EI.b).Nodup/\Below w.heap.size w wr)
 case atStart=>exact⟨0,by omega,rfl,H.o.2.2.2.2.2.1,qXc,H.o.2.2.2.2.1⟩
 case round=>
  obtain⟨k,hk,rfl,hm,hnd,hb⟩:=hrel;by_cases hlt:k<l.length
  .have k1:(k:Int)<(l.length:Int):=by omega
   have k0:(0:Int)<=(k:Int):=by omega
   obtain⟨g,o,cp,e,hgl,hcell⟩:=H.o.1.at (by omega);cases e;have hx:=wH (enc:=EI.cs) (m:=4) (fun _=>rfl) hcell hlt;have hin:=H.o.2.2.1 _ (qyz hlt);have hnx:=Qw l hlt;have hn1:= @XN l k hlt hnd;have hn2:= @Uo l k hlt;obtain⟨x,hxx⟩:=qqe (l[k]);rw[<-hxx]at hx hin hnx hn1 hn2;have hrow:wr.rangeAt g (o+k*4) x.cs:=Below.range hb hx;obtain⟨cs,hcs⟩:=qqe (x.cs);rw[<-hcs]at hrow;obtain⟨w2,hw2⟩:=qqe (wr.alloc (.cells cs.toArray 37));have hu2:Upd (fun _=>False) wr w2:=by rw[hw2];exact(uur _ wr).alloc _
   have g2:w2.heap[wr.heap.size]?=some (.cells x.cs.toArray 37 (0,0)):=by rw[hw2,hcs];exact zc wr _ rfl
   obtain⟨q,hq⟩:=qqe (wr.heap.size);rw[<-hq]at g2;have e2:w2.cell? ⟨q,0,none⟩=some (.int .i64 x.b):=za g2 0;have r2:=zg g2;rw[<-hcs]at r2;have hm2:=hm.keep hu2 (fun h=>h);have hlk:=hm2.look EI.enc_inj Tryz.underlying114 (SZ w2) hin.1.1 hin.1.2;obtain⟨y,hy⟩:=qqe ((apM (l.take k) x.b).getD EI.zero);obtain⟨ok,hok⟩:=qqe ((apM (l.take k) x.b).isSome);rw[<-hy,<-hok]at hlk;rw[<-hok]at hn1 hn2;unfold EI.enc at hlk;have hy1:=y.one;have hyl:y.cs.length=4:=rfl;obtain⟨ys,hys⟩:=qqe (y.cs);rw[<-hys]at hlk hy1 hyl;have hb2:=hb.trans ((Upd.below hu2).mono hb.size);have hcl:cs.length=4:=by rw[hcs];rfl
   have hc1:∀v∈cs,v.oneCell'=true:=by rw[hcs];exact x.one
   have hci:(Tryz.prog.info? 37).map (·.size)=some cs.length:=by rw[hcl];exact Zv
   have hyi:(Tryz.prog.info? 37).map (·.size)=some ys.length:=by rw[hyl];exact Zv
   have HX:=Y4 hcl hci hc1 r2;have HY:=Y4 hyl hyi hy1 hys;have HW2:=Y3 hw2 hq hcs;have HK:=Y7 hm2 hb2 hnx hn1 hn2 hin hnd;clear hm hnd hb hcell hx hin hnx hn1 hn2 hxx hcs hw2 hu2 g2 hq r2 hm2 hy hok hy1 hyl hys hb2 hcl hc1 hci hyi hgl;go_wp2_with (first
    |(refine qZg rfl 37 _ rfl _ _ rfl _ _ hrow Tryz.underlying37 rfl HX.o.2.1 ?_)
    |(refine zk rfl _ _ _ rfl _ _ cs rfl rfl (by rw[HX.o.1];rfl) HX.o.2.1 HX.o.2.2.1 ?_;refine Stop.i ?_)
    |fail)
   rw[<-HW2.o.1,<-HW2.o.2.1];unfold Stop;clear hrow;go_wp2_with (first
    |(refine zk rfl _ _ _ rfl _ _ ys rfl rfl (by rw[HY.o.1];rfl) HY.o.2.1 HY.o.2.2.1 ?_;refine Stop.i ?_)
    |fail)
   obtain⟨w3,hw3⟩:=qqe (w2.alloc (.cells ys.toArray 37));rw[<-hw3];have hu3:Upd (fun _=>False) w2 w3:=by rw[hw3];exact(uur _ w2).alloc _
   clear hlk;have e3:=hu3.cellv e2 (fun h=>h);have r3:=hu3.range HX.o.2.2.2 (fun h=>h);have hm3:=HK.o.1.keep hu3 (fun h=>h);have hb3:=HK.o.2.1.trans ((Upd.below hu3).mono HK.o.2.1.size);clear e2;cases ok with
   |true=>
    have HR:=Y2 hb3 (HK.o.2.2.2.2.1 rfl);clear hm3 hb3 hu3 hw3;unfold Stop;go_wp2_with fail
    refine qYw (v:=.tuple #[.slice none 0 0,.int .i64 12]) (by simp[results,Tryz.results12,go_sem]) rfl ?_;exact⟨_,[],12,rfl,Sl.nil _ _ _,From.nil _ _ _,HR.o.1,.inl ⟨rfl,rfl,.inl HR.o.2⟩⟩
   |false=>
    obtain⟨w4,hst,hm4,hu4,z4⟩:=hm3.store EI.enc_inj Tryz.underlying114 HK.o.2.2.2.2.2.1.1.1 HK.o.2.2.2.2.2.1.1.2 x (show k<maxLen by unfold maxLen;omega);unfold EI.enc at hst;rw[<-HW2.o.2.2]at hst;have hMlt:=HK.o.1.lt;have hb4:Below w.heap.size w w4:=zj hb3 hu4 (qXv _) (fun j hj=>by rw[hj,HW.o.2];exact qXv _);have HR:=Y3 hm4 hb4 (HK.o.2.2.2.1 rfl);clear hm3 hb3 hu3 hw3 hm4 hu4 z4 hb4;unfold Stop;go_wp2_with (first
     |(refine qZg rfl 37 _ rfl _ _ rfl _ _ r3 Tryz.underlying37 rfl HX.o.2.1 ?_)
     |fail)
    go_roundg (gk-1)
    case measure=>omega
    case rel=>
     refine⟨k+1,by omega,by go_num,?_,HR.o.2.2,HR.o.2.1⟩;rw[HK.o.2.2.1];exact HR.o.1
  .obtain rfl:k=l.length:=by omega
   have k1:¬((l.length:Int)<(l.length:Int)):=by omega
   rw[qXp (qXv _)]at hm hnd;have hM:=HW.o.2;obtain⟨wA,hwA⟩:∃wA:World,wA=wr:=⟨_,rfl⟩
   rw[<-hwA]at hm hb⊢;have H1:=Y3 hm hnd hb;clear hm hnd hb hM hwA hk;go_wp2_with fail
   obtain⟨gk1,hgk1⟩:∃x,x=gk:=⟨_,rfl⟩
   clear hgk1;go_loopg[39] rs.length (fun gk s39 wr=>∃k:Nat,k+gk=rs.length/\s39=.int .i64 (k:Int)/\MapG EI.enc wr M (l.length+k) (apRs (apM l) (rs.take k))/\Below w.heap.size w wr)
   case atStart=>exact⟨0,by omega,rfl,H1.o.1,H1.o.2.2⟩
   case round=>
    obtain⟨k,hk,rfl,hm,hb⟩:=hrel;by_cases hlt2:k<rs.length
    .have k2:(k:Int)<(rs.length:Int):=by omega
     have k0:(0:Int)<=(k:Int):=by omega
     obtain⟨g,o,cp,e,hgl,hcell⟩:=H.o.2.1.at (by omega);cases e;have hx:=wH (enc:=dsR) (m:=7) (fun _=>rfl) hcell hlt2;have hin:=H.o.2.2.2.1 _ (qyz hlt2);have hnx:=sa (apM l) rs hlt2;obtain⟨x,hxx⟩:=qqe (rs[k]);rw[<-hxx]at hx hin hnx;have hrow:wr.rangeAt g (o+k*7) (dsR x):=Below.range hb hx;obtain⟨cs,hcs⟩:=qqe (dsR x);rw[<-hcs]at hrow;obtain⟨w2,hw2⟩:=qqe (wr.alloc (.cells cs.toArray 101));have hu2:Upd (fun _=>False) wr w2:=by rw[hw2];exact(uur _ wr).alloc _
     have g2:w2.heap[wr.heap.size]?=some (.cells (dsR x).toArray 101 (0,0)):=by rw[hw2,hcs];exact zc wr _ rfl
     obtain⟨q,hq⟩:=qqe (wr.heap.size);rw[<-hq]at g2;have e2:w2.cell? ⟨q,2,none⟩=some (.int .i64 (x.getD 2 0)):=za g2 2;have e3:w2.cell? ⟨q,3,none⟩=some (.int .i64 (x.getD 3 0)):=za g2 3;have e4:w2.cell? ⟨q,4,none⟩=some (.int .i64 (x.getD 4 0)):=za g2 4;have e5:w2.cell? ⟨q,5,none⟩=some (.bool (x.getD 5 0==1)):=za g2 5;have e6:w2.cell? ⟨q,6,none⟩=some (.int .i64 (x.getD 6 0)):=za g2 6;obtain⟨kd,hkd⟩:∃y,y=x.getD 2 0:=⟨_,rfl⟩
     obtain⟨xb,hxb⟩:∃y,y=x.getD 3 0:=⟨_,rfl⟩
     obtain⟨xs,hxs⟩:∃y,y=x.getD 4 0:=⟨_,rfl⟩
     obtain⟨xd,hxd⟩:∃y,y=(x.getD 5 0==1):=⟨_,rfl⟩
     obtain⟨xm,hxm⟩:∃y,y=x.getD 6 0:=⟨_,rfl⟩
     rw[<-hkd]at e2;rw[<-hxb]at e3 hin;rw[<-hxs]at e4;rw[<-hxd]at e5;rw[<-hxm]at e6;have hre:recE x=⟨xb,xs,xd,xm⟩:=by rw[hxb,hxs,hxd,hxm];rfl
     have hap:apR (apRs (apM l) (rs.take k)) x=fun s=>if s=xb then(if kd=0 then some ⟨xb,xs,xd,xm⟩else none)else(apRs (apM l) (rs.take k)) s:=by
      unfold apR;rw[hre,<-hxb,<-hkd]
     have hm2:=hm.keep hu2 (fun h=>h);have hb2:=hb.trans ((Upd.below hu2).mono hb.size);have hcl:cs.length=7:=by rw[hcs];rfl
     have hc1:∀v∈cs,v.oneCell'=true:=by rw[hcs];exact wU x
     have hci:(Tryz.prog.info? 101).map (·.size)=some cs.length:=by rw[hcl];exact infoThR
     have HX:=Y3 hcl hci hc1;have HW2:=Y2 hw2 hq;rw[hap]at hnx;have HK:=Y4 hm2 hb2 hnx hin;clear hm hb hcell hx hin hnx hxx hcs hw2 hu2 g2 hq hm2 hb2 hcl hc1 hci hgl hre hap hkd hxb hxs hxd hxm;go_wp2_with (first
      |(refine qZg rfl 101 _ rfl _ _ rfl _ _ hrow Tryz.underlying101 rfl HX.o.2.1 ?_)
      |(refine zk rfl _ _ _ rfl _ _ cs rfl rfl (by rw[HX.o.1];rfl) HX.o.2.1 HX.o.2.2 ?_;refine Stop.i ?_)
      |fail)
     rw[<-HW2.o.1,<-HW2.o.2];clear hrow;by_cases hz:kd=0
     .obtain ⟨w4,hst,hm4,hu4,z4⟩:=HK.o.1.store EI.enc_inj Tryz.underlying114 HK.o.2.2.2.1.1 HK.o.2.2.2.1.2 ⟨xb,xs,xd,xm⟩ (show l.length+k<maxLen by unfold maxLen;omega);have hst':(Instr.mapUpdate 114 (.map (some M)) (.int .i64 xb) (.agg #[.int .i64 xb,.int .i64 xs,.bool xd,.int .i64 xm])).run Tryz.prog w2=.ok () w4:=hst;have hb4:Below w.heap.size w w4:=zj HK.o.2.1 hu4 (qXv _) (fun j hj=>by rw[hj,HW.o.2];exact qXv _);have hnx:=HK.o.2.2.1;simp only[if_pos hz]at hnx;have hbe:=EE xb xs xd xm w2;have HR:=Y3 hm4 hb4 hnx;clear hm4 hu4 z4 hb4 hst hnx;subst hz;unfold Stop;go_wp2_with fail
      go_roundg (gk-1)
      case measure=>omega
      case rel=>
       refine⟨k+1,by omega,by go_num,?_,HR.o.2.1⟩;rw[HR.o.2.2];exact HR.o.1
     .obtain ⟨w4,hst,hm4,hu4,z4⟩:=HK.o.1.drop Tryz.underlying114 HK.o.2.2.2.1.1 HK.o.2.2.2.1.2 0;have hb4:Below w.heap.size w w4:=zj HK.o.2.1 hu4 (qXv _) (fun j hj=>by rw[hj,HW.o.2];exact qXv _);have hnx:=HK.o.2.2.1;simp only[if_neg hz]at hnx;have HR:=Y3 hm4 hb4 hnx;clear hm4 hu4 z4 hb4 hnx;unfold Stop;go_wp2_with fail
      go_roundg (gk-1)
      case measure=>omega
      case rel=>
       refine⟨k+1,by omega,by go_num,?_,HR.o.2.1⟩;rw[HR.o.2.2];exact HR.o.1.mono (by omega)
    .obtain rfl:k=rs.length:=by omega
     have k2:¬((rs.length:Int)<(rs.length:Int)):=by omega
     rw[qXp (qXv _)]at hm;have hmm:= @run_makeMap Tryz.prog;obtain⟨M2,hM2⟩:=qqe (wr.heap.size);obtain⟨w5,hw5⟩:=qqe (wr.alloc (.map #[] 0));have hu5:Upd (fun _=>False) wr w5:=by rw[hw5];exact(uur _ wr).alloc _
     have hm5:MapC (Value.int .i64) w5 M2 0 (takenF []) 0:=by rw[hw5,hM2];exact MapC.made wr
     have hm6:=hm.keep hu5 (fun h=>h);have hm6x:=hm6;rw[hw5]at hm6x;have hb5:=hb.trans ((Upd.below hu5).mono hb.size);have hlt5:M2<w5.heap.size:=hm5.g.lt;have z5:w5.heap.size=M2+1:=by rw[hw5,hM2];simp
     have hMs:M<M2:=by have:=hm.lt;omega
     have HW5:=Y2 hw5 hM2;have H2:=Y5 hm5 hm6 hb5 hMs z5;have HRx:=qqh hm6x;clear hm hb hw5 hu5 hm5 hm6 hb5 hlt5 hMs hM2 hk hm6x z5;go_wp2_with (first
      |(at_range;refine qF rfl _ 114 rfl Tryz.underlying114 rfl HRx.out ?_;intro w6 hrg hu6 z6;refine Stop.i ?_)
      |fail)
     rw[<-HW5.o.1]at hrg hu6 z6
     try rw[<-HW5.o.1]
     rw[H2.o.2.2.2.2]at hrg z6;rw[<-HW5.o.2];obtain⟨cnt,hcN,hrg⟩:=hrg;obtain⟨F,hF⟩:=qqe (apRs (apM l) rs);have hFb:AtB F:=by rw[hF];exact SF rs _ (Em l)
     have hFi:∀s e,F s=some e->Rp e.b/\Rp e.s:=by
      rw[hF];exact Qy (p:=fun e=>Rp e.b/\Rp e.s) H.o.2.2.1 (fun r hr=>H.o.2.2.2.1 r hr)
     rw[<-hF]at hrg;have hRM:M2+1=M2+1:=rfl;have hb6:Below w.heap.size w w6:=H2.o.2.2.1.trans ((Upd.below hu6).mono H2.o.2.2.1.size);have hmc6:=H2.o.1.keep hu6 (fun h=>h);have H3:=Y9 hF hFb hFi hRM hb6 hmc6 hcN hrg H2.o.2.2.2.1;clear hF hFb hFi hRM hb6 hmc6 hcN hrg hu6 z6 hmm;unfold Stop;go_wp2_with fail
     obtain⟨gk2,hgk2⟩:∃x,x=gk:=⟨_,rfl⟩
     clear hgk2;go_loopg[14] cnt (fun gk s14 wr=>∃(L:List EI) (left:Int->Bool) (c:Nat),L.length+gk<=cnt/\Zi EI.enc wr M (M2+1) (l.length+rs.length) F left gk/\MapC (Value.int .i64) wr M2 L.length (takenF L) c/\c<=L.length/\(c=L.length↔(L.map EI.s).Nodup)/\
      Sl wr 37 4 s14 L.length (L.flatMap EI.cs)/\From (M2+2) s14/\Below w.heap.size w wr/\(L.map EI.b).Nodup/\∀e,e∈L↔F e.b=some e/\left e.b=false)
     case atStart=>exact⟨[],_,0,by simp,H3.o.2.2.2.2.2.2.2.1,H3.o.2.2.2.2.2.1,qXv _,by simp,Sl.nil _ _ _,From.nil _ _ _,H3.o.2.2.2.2.1,qXc,fun e=>⟨fun h=>(by cases h),fun h=>(by have h1:=h.2;rw[h.1]at h1;cases h1)⟩⟩
     case round=>
      obtain⟨L,left,c,hLg,hrg,hmc,hc1,hc2,hsl,hf,hb,hLb,hLm⟩:=hrel;have HL:=Y10 hLg hmc hc1 hc2 hsl hf hb hLb hLm hrg;clear hLg hmc hc1 hc2 hsl hf hb hLb hLm;go_wp2_with (first
       |(at_next;refine rj rfl _ rfl rfl hrg (fun hl0=>Stop.i ?_) (fun x en w7 hlx hfx hcc hu7 hs7 hen=>Stop.i ?_))
       |fail)
      .obtain ⟨hLg,hmc,hcl,hc2,hsl,hf,hb,hLb,hLm,-⟩:=HL.o;clear hrg;obtain⟨ao3,cc3,rfl⟩:=hsl.rd.nil_iff;have hLi:Lists F L:=⟨hLb,fun e=>(hLm e).trans ⟨fun h=>h.1,fun h=>⟨h,hl0 _⟩⟩⟩
       have hlen:=hmc.len Tryz.underlying116 3;have hLN:L.length<=131072:=by have:=H3.o.2.2.2.2.2.2.1;omega
       have HSo:=qqh (Ux hsl (by omega));have hMw:M=w.heap.size:=HW.o.2;have hMM:=H3.o.2.2.2.2.2.2.2.2;have hFw:From w.heap.size (.slice ao3 L.length cc3):=hf.mono (by omega);have HE:=Y5 hLi hc2 hFw hb hLb;have HcL:=qqh hcl;clear hLg hmc hcl hc2 hsl hf hb hLb hLm hl0 hMw hMM hFw hLi;unfold Stop;by_cases hcc:c=L.length
       .have HCC:=qqh hcc;have hci:((c:Nat):Int)=(L.length:Int):=by rw[hcc]
        clear hcc;go_wp2_with fail
        refine HSo.out.mono ?_;rintro e w9 ⟨rfl,L',hp,hs,sl9,hu9⟩;have hb9:Below w.heap.size w w9:=zj HE.o.2.2.2.1 hu9 (qXv _) (fun j hj=>HE.o.2.2.1 j hj);have HFin:=Y4 hp hs sl9 hb9;clear hp hs sl9 hu9 hb9;go_wp2_with fail
        refine qYw (v:=.tuple #[.slice ao3 L.length cc3,.int .i64 0]) (by simp[results,Tryz.results12,go_sem]) rfl ?_;obtain⟨hp,hs,sl9,hb9⟩:=HFin.out;have hpl:=hp.length_eq;refine⟨_,L',0,rfl,by rw[hpl];exact sl9,HE.o.2.2.1,hb9,.inr ⟨rfl,H1.o.2.1,?_,?_,Up hp HE.o.2.2.2.2 hs⟩⟩
        .rw [<-H3.o.1];exact XP HE.o.1 hp
        .exact (hp.map EI.s).nodup_iff.2 (HE.o.2.1.1 HCC.o)
       .have HCC:=qqh hcc;have hci:¬((c:Nat):Int)=(L.length:Int):=by omega
        clear hcc;go_wp2_with fail
        refine qYw (v:=.tuple #[.slice none 0 0,.int .i64 12]) (by simp[results,Tryz.results12,go_sem]) rfl ?_;exact⟨_,[],12,rfl,Sl.nil _ _ _,From.nil _ _ _,HE.o.2.2.2.1,.inl ⟨rfl,rfl,.inr ⟨L,by rw[<-H3.o.1];exact HE.o.1,fun h=>HCC.o (HE.o.2.1.2 h)⟩⟩⟩
      .clear hrg;obtain⟨cnt',hc',hrg1⟩:=hcc;have heb:=H3.o.2.1 x en hfx;have hei:=(H3.o.2.2.1 x en hfx).2;have hen1:=en.one;unfold EI.enc at hen⊢;obtain⟨cs,hcs⟩:=qqe (en.cs);rw[<-hcs]at hen hen1;rw[<-hcs];obtain⟨w8,hw8⟩:=qqe (w7.alloc (.cells cs.toArray 37));have hu8:Upd (fun _=>False) w7 w8:=by rw[hw8];exact(uur _ w7).alloc _
       have g8:w8.heap[w7.heap.size]?=some (.cells en.cs.toArray 37 (0,0)):=by rw[hw8,hcs];exact zc w7 _ rfl
       obtain⟨q,hq⟩:=qqe (w7.heap.size);rw[<-hq]at g8;have e8:w8.cell? ⟨q,1,none⟩=some (.int .i64 en.s):=za g8 1;have r8:=zg g8;rw[<-hcs]at r8;obtain⟨hLg,hmc,hcl,hc2,hsl,hf,hb,hLb,hLm,hrg⟩:=HL.o;have hMM:=H3.o.2.2.2.2.2.2.2.2;have hRlt:=hrg1.lt.2;have hmc8:=(hmc.keep hu7 (by omega)).keep hu8 (fun h=>h);have hlk:=hmc8.g.look1 (enc:=Value.int .i64) (fun x y h=>by injection h) Tryz.underlying116 (z0:=0) (UQ w8) hei.1 hei.2;rw[YH]at hlk;have hkl:=SH L en.s;obtain⟨kc,hkc⟩:=qqe (cntS L en.s);rw[<-hkc]at hlk hkl;have hLN:L.length<=131072:=by have:=H3.o.2.2.2.2.2.2.1;omega
       have hwr:IntKind.i64.wrap ((kc:Int)+1)=(kc:Int)+1:=qxv _ (by omega);obtain⟨w9,hst,hmc9,hu9,z9⟩:=hmc8.store (enc:=Value.int .i64) (fun x y h=>by injection h) Tryz.underlying116 hei.1 hei.2 ((kc:Int)+1) (show L.length<maxLen by unfold maxLen;omega);have hqM:q≠M2:=by omega
       have r9:=hu9.range r8 hqM;have hsl8:=(hsl.keep hu7 (fun g hg h=>by have:=hf g hg;omega)).keep hu8 (fun _ _ h=>h);have hsl9:=hsl8.keep hu9 (fun g hg h=>by have:=hf g hg;omega);have hcnt:=Qz en hcl hc2;have hstep:=XO hfx heb hlx hLb hLm;have htk:=YF L en;rw[<-hkc]at htk;have hb9:Below w.heap.size w w9:=zj (zj (zj hb hu7 (qXv _) (fun j hj=>by have:=HW.o.2;omega)) hu8 (qXv _) (fun j hj=>hj.elim)) hu9 (qXv _) (fun j hj=>by have:=HW.o.2;omega);have hrg9:=(hrg1.keep hu8 (fun h=>h) (fun h=>h)).keep hu9 (show¬M=M2 by omega) (show¬M2+1=M2 by omega);have hcs4:cs.length=4:=by rw[hcs];rfl
       have hci:(Tryz.prog.info? 37).map (·.size)=some cs.length:=by rw[hcs4];exact Zv
       have z9':M2+2<=w9.heap.size:=by have:=hrg9.lt.2;omega
       rw[<-htk]at hmc9;obtain⟨ie,ze,hie,hze,hz4,hi4,hi32⟩:=YD;have HI:=Y5 hie hze hz4 hi4 hi32;have hm1:Hid (L.length+1<=maxLen):=by show _<=_;unfold maxLen;omega
       have hm2:Hid ((L.length+1)*32<=140737488355328):=by show _<=_;omega
       have HX:=Y4 hcs4 hci hen1 hcs;have HW8:=Y2 hw8 hq;have HB:=Y10 hsl9 hf hb9 hrg9 hmc9 hcnt hstep z9' hLg hc';clear hLg hmc hcl hc2 hsl hf hb hLb hLm hrg hRlt hmc8 hkc hu9 z9 hqM hsl8 hsl9 hcnt hstep htk hb9 hrg9 hrg1 hc' hcs4 hci z9' hmc9 hie hze hz4 hi4 hi32 hen1 hcs hw8 hq hu8 g8 hu7 hs7 heb hei hlx hfx hMM r8;unfold Stop;go_wp2_with (first
        |(refine zk rfl _ _ _ rfl _ _ cs rfl rfl (by rw[HX.o.1];rfl) HX.o.2.1 HX.o.2.2.1 ?_;refine Stop.i ?_)
        |fail)
       rw[<-HW8.o.1,<-HW8.o.2];unfold Stop;go_wp2_with (first
        |(refine qZg rfl 37 _ rfl _ _ rfl _ _ r9 Tryz.underlying37 rfl HX.o.2.1 ?_)
        |(refine xz rfl 22 37 _ rfl 4 (by decide) Tryz.underlying22 ⟨ie,ze,HI.o.1,HI.o.2.1,HI.o.2.2.1,HI.o.2.2.2.1⟩ (by decide) cs rfl HX.o.1 ?_)
        |(at_builtin;refine zP rfl _ _ 22 rfl ie ze 32 Tryz.underlying22 HI.o.1 HI.o.2.1 HI.o.2.2.2.1 HI.o.2.2.2.2 HI.o.2.2.1 (by decide) rfl HB.o.1 cs rfl HX.o.1 HX.o.2.2.1 hm1.out hm2.out ?_;intro v' w10 hs10 hu10 hb10;obtain⟨ao',cc',rfl⟩:=hs10.rd.nil_iff;refine Stop.i ?_)
        |fail)
       unfold Stop;have hu10':Upd (ownS u14) w9 w10:=hu10;have hb10':blockFrom w9 u14 (.slice ao' (L.length+1) cc'):=hb10;clear hu10 hb10;have hf9:From (M2+2) (.slice ao' (L.length+1) cc'):=hb10'.ge HB.o.2.2.2.2.2.2.2.1 HB.o.2.1;have hrg10:=HB.o.2.2.2.1.keep hu10' (fun h=>by have:=HB.o.2.1 _ h;have:=H3.o.2.2.2.2.2.2.2.2;omega) (fun h=>by have:=HB.o.2.1 _ h;omega);have hmc10:=HB.o.2.2.2.2.1.keep hu10' (fun h=>by have:=HB.o.2.1 _ h;omega);have hb10:Below w.heap.size w w10:=zj HB.o.2.2.1 hu10' (qXv _) (fun j hj=>by have:=HB.o.2.1 _ hj;have:=HW.o.2;have:=H3.o.2.2.2.2.2.2.2.2;omega);have hs10':Sl w10 37 4 (.slice ao' (L.length+1) cc') (L++[en]).length ((L++[en]).flatMap EI.cs):=by
        simp only[qzd,qyf,qyg,List.flatMap_nil,qxy,qze,qzh];rw[<-HX.o.2.2.2];exact hs10
       have HN:=Y5 hf9 hrg10 hmc10 hb10 hs10';clear hf9 hrg10 hmc10 hb10 hs10' hs10 hu10' hb10' hst hlk hen r9 e8 hwr;go_wp2_with fail
       go_roundg cnt'
       case measure=>exact HB.o.2.2.2.2.2.2.2.2.2
       case rel=>
        refine⟨L++[en],_,_,?_,HN.o.2.1,?_,HB.o.2.2.2.2.2.1.1,HB.o.2.2.2.2.2.1.2,HN.o.2.2.2.2,HN.o.1,HN.o.2.2.2.1,HB.o.2.2.2.2.2.2.1.1,HB.o.2.2.2.2.2.2.1.2⟩
        .have h1:=HB.o.2.2.2.2.2.2.2.2.1;have h2:=HB.o.2.2.2.2.2.2.2.2.2;simp only[qzd,qze,qzh];omega
        .simp only[qzd,qze,qzh];exact HN.o.2.2.1
def EnOut(S:Nat->Prop)(w:World)(b:Nat)(F:List Bk)(O:List (Nat×Bk))(jo pa:Nat)(e:Ending)(w':World):Prop:=
 ∃(v:Value) (L:List EI) (wh sq:Nat) (c:Int),e=.returned (.tuple #[.int .i64 (wh:Int),.int .i64 (sq:Int),v,.int .i64 c])/\Sl w' 37 4 v L.length (L.flatMap EI.cs)/\From w.heap.size v/\Dv (fun j=>S j/\∀g,v.ownBlock=some g->g≠j) w' b F O []/\Upd S w w'/\
  ((c=14/\L=[]/\(nwS F O 1 pa 2).1=false)\/
   (nwS F O 1 pa 2).1=true/\∃R:List (List Nat),R.Perm (scanTo F O (1+2*pa) jo jo)/\R.Pairwise (fun x y=>rseq x<=rseq y)/\
    ∃r:RepS,r=repS R (nwS F O 1 pa 2).2.2.1/\
    ((c=12/\L=[]/\(¬(((nwS F O 1 pa 2).2.2.2.map Ent.toI).map EI.b).Nodup\/∃L0,Lists (apRs (apM ((nwS F O 1 pa 2).2.2.2.map Ent.toI)) (r.d.map natsI)) L0/\¬(L0.map EI.s).Nodup))\/
    (c=0/\wh=(nwS F O 1 pa 2).2.1/\sq=r.g/\Lists (apRs (apM ((nwS F O 1 pa 2).2.2.2.map Ent.toI)) (r.d.map natsI)) L/\(L.map EI.s).Nodup/\L.Pairwise (fun x y=>x.b<y.b))))
theorem YS{S:Nat->Prop}{w:World}{b:Nat}{F:List Bk}{O:List (Nat×Bk)}(hd:Dv S w b F O [])(hn:∀j,w.heap.size<=j->S j)(hN:Nib w)(hgS:¬S 0)
  (id:Int) (bl sl jo pa lo ba:Nat) (b1:1<=bl) (b2:bl<=4096) (s1:1<=sl) (s2:sl<=1024) (j1:4<=jo) (j2:jo<=1024) (l1:1<=lo) (l2:lo<=1024) (a1:1<=ba) (a2:ba<=64) (p1:(sl-1)/4+1<=pa) (p2:pa<=4096)
  (hz:1+2*pa+jo+lo+lo+lo+sl<=4096) (hF:F.length=1+2*pa+jo+lo+lo+lo+sl):
  Calls Tryz.prog 22 #[.agg (superC id bl sl jo pa lo ba).toArray,.pointer (some ⟨b,0,none⟩)] w (EnOut S w b F O jo pa):=by
 obtain⟨w1,hw1⟩:=qqe (w.alloc (.cells (superC id bl sl jo pa lo ba).toArray 40));have HP:=qqh (vO id bl sl jo pa lo ba b1 b2 s1 s2 j1 j2 l1 l2 a1 a2 p1 p2 hz w1);have HW:=qqh hw1;have H:=Y4 hd hn hN hgS;clear hd hn hN hgS hw1;go_enter Tryz.func22,Tryz.ntmps22
 go_wp2_with fail
 rw[<-HW.o];refine HP.o.mono ?_;rintro e w2 ⟨rfl,hb2⟩;have hu1:Upd (fun _=>False) w w1:=by rw[HW.o];exact(uur _ w).alloc _
 have hu2:Upd (fun _=>False) w w2:=hu1.trans (uuo hb2);have g1:w1.heap[w.heap.size]?=some (.cells (superC id bl sl jo pa lo ba).toArray 40 (0,0)):=by rw[HW.o];exact zc w _ rfl
 obtain⟨q,hq⟩:=qqe (w.heap.size);obtain⟨w3,hw3⟩:=qqe (w2.alloc (.cells (layC sl jo pa lo).toArray 43));have hu3:Upd (fun _=>False) w w3:=by rw[hw3];exact hu2.alloc _
 have hu23:Upd (fun _=>False) w2 w3:=by rw[hw3];exact(uur _ w2).alloc _
 have gm:w3.heap[w2.heap.size]?=some (.cells (layC sl jo pa lo).toArray 43 (0,0)):=by rw[hw3];exact zc w2 _ rfl
 have z3:w3.heap.size=w2.heap.size+1:=by rw[hw3];simp
 have gq:=hu23.blockv ((uuo (S:=fun _=>False) hb2).blockv g1);have hsz:w.heap.size<w2.heap.size:=by have:=hb2.size;have:=zd g1;omega
 obtain⟨m,hm⟩:=qqe (w2.heap.size);have dv3:Dv (fun j=>(S j/\j<w.heap.size)\/w3.heap.size<=j) w3 b F O []:=((H.o.1.shrink (T:=fun j=>S j/\j<w.heap.size) (fun j h1 h2=>⟨h1,h2⟩)).keep hu3 (fun _ _ h=>h)).wide (fun j h=> .inl h);have hN3:Nib w3:=H.o.2.2.1.keep hu3 (fun h=>h);have HNw:=qqh (SE dv3 (fun j hj=> .inr hj) 1 pa (by omega) (by omega) hN3 (fun h=>by rcases h with h|h;exact H.o.2.2.2 h.1;have:=hN3.lt;omega));have HL:=Y3 hw3 hm hq;rw[<-hq]at gq;rw[<-hm]at gm;have c3:w3.cell? ⟨q,3,none⟩=some (.int .i64 (jo:Int)):=za gq 3;have c4:w3.cell? ⟨q,4,none⟩=some (.int .i64 (pa:Int)):=za gq 4;have m0:w3.cell? ⟨m,0,none⟩=some (.int .i64 1):=za gm 0;have m1:w3.cell? ⟨m,1,none⟩=some (.int .i64 (1+2*(pa:Int))):=za gm 1;have H3:=Y7 hu3 dv3 hN3 z3 hsz gq gm;clear hu1 hu2 hu3 hu23 g1 gm z3 gq hsz dv3 hN3 hw3 hq hm hb2;go_wp2_with (first
  |(refine zk rfl _ _ _ rfl _ _ (layC sl jo pa lo) rfl rfl rfl (by kernel_rfl) (fun v hv=>by simp at hv;rcases hv with rfl|rfl|rfl|rfl|rfl|rfl|rfl<;>rfl) ?_;refine Stop.i ?_)
  |fail)
 rw[<-HL.o.1,<-HL.o.2.1,<-HL.o.2.2];unfold Stop;go_wp2_with fail
 refine HNw.out.mono ?_;rintro e w4 ⟨v,rfl,sl4,f4,dv4,hu4⟩;obtain⟨nr,hnr⟩:=qqe (nwS F O 1 pa 2);rw[<-hnr]at sl4
 try rw[<-hnr]
 have HNR:=qqh hnr;have hbnd:=SJ F O 1 pa (fun B=>yC F O B pa) 2;rw[<-hnr]at hbnd;obtain⟨nok,nwh,nsq,nes⟩:=nr;dsimp only at sl4 hbnd⊢;obtain⟨ao4,cc4,rfl⟩:=sl4.rd.nil_iff;have c3':=hu4.cellv c3 (fun h=>by have:=H3.o;have h1:=HL.o.2.2;omega);have m1':=hu4.cellv m1 (fun h=>by have:=H3.o;have h1:=HL.o.2.1;omega);have H4:=Y5 sl4 f4 dv4 hu4 hbnd;clear hnr sl4 f4 dv4 hu4 hbnd c3 c4 m0 m1;cases nok with
 |false=>
  go_wp2_with fail
  refine qYw (v:=.tuple #[.int .i64 0,.int .i64 0,.slice none 0 0,.int .i64 14]) (by simp[results,Tryz.results22,go_sem]) rfl ?_;obtain⟨sl4,f4,dv4,hu4,-⟩:=H4.o;refine⟨.slice none 0 0,[],0,0,14,rfl,Sl.nil _ _ _,From.nil _ _ _,?_,?_,.inl ⟨rfl,rfl,by rw[<-HNR.o]⟩⟩
  .refine dv4.wide (fun j h=>⟨?_,fun g hg=>by cases hg⟩);rcases h.1 with h|h
   .exact h.1
   .have:=H3.o;exact H.o.2.1 j (by omega)
  .refine H3.o.1.mono (fun _ _ h=>h.elim)|>.new hu4 (fun j hj h=>?_)
   rcases h with h|h
   .exact h.1
   .have:=H3.o;omega
 |true=>
  have HSc:=qqh (Ju H4.o.2.2.1 (fun j hj=>⟨.inr (by have:=H4.o.2.2.2.1.size;omega),fun g hg e=>by have:=H4.o.1.lt hg;omega⟩) (1+2*pa) jo (by omega) j2 (by omega) (H3.o.2.2.1.keep H4.o.2.2.2.1 (fun h=>by rcases h with h|h;exact H.o.2.2.2 h.1;have:=H3.o.2.2.1.lt;omega)) (fun h=>by rcases h.1 with h|h;exact H.o.2.2.2 h.1;have:=H3.o.2.2.1.lt;omega));go_wp2_with fail
  refine HSc.out.mono ?_;rintro e w5 ⟨v5,R,rfl,hp,hs,sl5,f5,dv5,hu5⟩;obtain⟨ao5,cc5,rfl⟩:=sl5.rd.nil_iff;have sl45:=H4.o.1.keep hu5 (fun g hg h=>h.2 g hg rfl);have HRp:=qqh (SI sl5.rd nsq H4.o.2.2.2.2.2.2 (fun r hr=>(qJ F O (1+2*pa) jo jo r (hp.mem_iff.1 hr)).1) (by rw[hp.length_eq];exact qXx (xZ F O _ jo jo) j2));have H5:=Y5 hp hs sl45 dv5 hu5;clear hp hs sl5 f5 dv5 hu5 sl45;go_wp2_with fail
  refine HRp.out.mono ?_;rintro e w6 ⟨v6,rfl,sl6,f6,hb6⟩;obtain⟨ao6,cc6,rfl⟩:=sl6.rd.nil_iff;have hRl:R.length<=1024:=by rw[H5.o.1.length_eq];exact qXx (xZ F O _ jo jo) j2
  have hdl:=(Zn (L:=R) (after:=nsq) (N:=1099511627776) H4.o.2.2.2.2.2.2 (fun r hr=>(qJ F O (1+2*pa) jo jo r (H5.o.1.mem_iff.1 hr)).1) R.length (qXv _)).2.2;rw[List.take_length]at hdl;have hrm:=SK R nsq;obtain⟨r,hr⟩:=qqe (repS R nsq);rw[<-hr]at sl6 hdl hrm;rw[<-hr];have sl46:=H5.o.2.2.1.keep (uuo (S:=fun _=>False) hb6) (fun _ _ h=>h);have i1:Rd w6 4 (.slice ao4 nes.length cc4) (nes.map Ent.toI).length ((nes.map Ent.toI).flatMap EI.cs):=by
   rw[YK,qzg];exact sl46.rd
  have i2:Rd w6 7 (.slice ao6 r.d.length cc6) (r.d.map natsI).length ((r.d.map natsI).flatMap dsR):=by
   rw[XT,qzg];exact sl6.rd
  have HAp:=qqh (EF i1 i2 (by rw[qzg];have:=H4.o.2.2.2.2.2.1;omega) (by rw[qzg];omega)
   (fun e he=>by
    obtain⟨x,hx,rfl⟩:=qzv.1 he;have:=H4.o.2.2.2.2.1 x hx;unfold Ent.In at this;unfold Rp Ent.toI;dsimp only;omega)
   (fun y hy=>by
    obtain⟨x,hx,rfl⟩:=qzv.1 hy;have:=qJ F O (1+2*pa) jo jo x (H5.o.1.mem_iff.1 (hrm x hx));rw[zR,zR];unfold Rp;omega))
  have H6:=Y2 hb6 hr;clear hRl hdl hrm sl46 i1 i2 sl6 f6 hb6 hr;go_wp2_with fail
  refine HAp.out.mono ?_;rintro e w7 ⟨v7,L,c,rfl,sl7,f7,hb7,hc⟩;obtain⟨ao7,cc7,rfl⟩:=sl7.rd.nil_iff;have z5:=H4.o.2.2.2.1.size;have z6:=H5.o.2.2.2.2.size;have z7:=H6.o.1.size;have hu7:Upd (fun _=>False) w5 w7:=(uuo H6.o.1).trans (uuo hb7);have dv7:Dv (fun j=>S j/\j<w6.heap.size) w7 b F O []:=((H5.o.2.2.2.1.shrink (T:=fun j=>S j/\j<w6.heap.size) (fun j h hj=>⟨by
    rcases h.1.1 with h|h
    .exact h.1
    .have:=H3.o;exact H.o.2.1 j (by omega),by omega⟩)).new hu7)
  have hU:Upd S w w7:=by
   refine(((H3.o.1.mono (fun _ _ h=>h.elim)).new H4.o.2.2.2.1 (fun j hj h=>?_)).new H5.o.2.2.2.2 (fun j hj h=>?_)).trans (hu7.mono (fun _ _ h=>h.elim))
   .rcases h with h|h
    .exact h.1
    .have:=H3.o;omega
   .rcases h.1 with h|h
    .exact h.1
    .have:=H3.o;omega
  have H7:=Y4 dv7 hU sl7 f7;have h36:w.heap.size<=w6.heap.size:=by have:=H3.o;omega
  have HS6:=qqh h36;clear sl7 f7 hb7 z5 z6 z7 hu7 dv7 hU h36;rcases hc with⟨rfl,rfl,hc⟩|⟨rfl,hc1,hc2,hc3,hc4⟩
  .have HC:=qqh hc;clear hc;go_wp2_with fail
   refine qYw (v:=.tuple #[.int .i64 0,.int .i64 0,.slice none 0 0,.int .i64 12]) (by simp[results,Tryz.results22,go_sem]) rfl ?_;refine⟨.slice none 0 0,[],0,0,12,rfl,Sl.nil _ _ _,From.nil _ _ _,H7.o.1.wide (fun j h=>⟨h.1,fun g hg=>by cases hg⟩),H7.o.2.1,.inr ⟨by rw[<-HNR.o],R,H5.o.1,H5.o.2.1,r,by rw[<-HNR.o];exact H6.o.2,.inl ⟨rfl,rfl,by rw[<-HNR.o];exact HC.o⟩⟩⟩
  .have HC:=Y4 hc1 hc2 hc3 hc4;clear hc1 hc2 hc3 hc4;go_wp2_with fail
   refine qYw (v:=.tuple #[.int .i64 (nwh:Int),.int .i64 (r.g:Int),.slice ao7 L.length cc7,.int .i64 0]) (by simp[results,Tryz.results22,go_sem]) rfl ?_;refine⟨.slice ao7 L.length cc7,L,nwh,r.g,0,rfl,H7.o.2.2.1,H7.o.2.2.2.mono HS6.o,H7.o.1.wide (fun j h=>⟨h.1,fun g hg e=>by have:=H7.o.2.2.2 g hg;omega⟩),H7.o.2.1,.inr ⟨by rw[<-HNR.o],R,H5.o.1,H5.o.2.1,r,by rw[<-HNR.o];exact H6.o.2,.inr ⟨rfl,by rw[<-HNR.o],rfl,by rw[<-HNR.o];exact HC.o.2.1,HC.o.2.2.1,HC.o.2.2.2⟩⟩⟩
end Go.Proofs.YtfhfbpmlnjdfoaaGreatDoor
namespace Go.Proofs.YtfhfbpmlnjdfoaaGreatDoor
open Go Go.RowKit
theorem vl{α β:Type}{f:α->β}:∀{l:List α},(l.map f).Nodup->∀{x y:α},x∈l->y∈l->f x=f y->x=y
 |[],_,x,_,hx,_,_=>by cases hx
 |z::l,h,x,y,hx,hy,e=>by
  rw[qzm,qXb]at h;rcases qzr.1 hx with e1|h1
  .rcases qzr.1 hy with e2|h2
   .rw [e1,e2]
   .exact absurd (by rw[<-e1,e];exact List.mem_map_of_mem h2) h.1
  .rcases qzr.1 hy with e2|h2
   .exact absurd (by rw[<-e2,<-e];exact List.mem_map_of_mem h1) h.1
   .exact vl h.2 h1 h2 e
theorem EnOk.nd{n:CaN}{L:List Ent}(h:EnOk n L):((L.map Ent.toI).map EI.b).Nodup:=by
 rw[qzn];refine qXf.2 (h.2.2.imp fun h e=>?_);simp only[Function.comp,Ent.toI]at e;omega
section
variable{n:CaN}{Z:Nat->Bk}{a:CaS}{E:Nat->List Ent}{R:Nat->List Int}{f0 com fp:Nat}
def EnHi(S:Nat->Prop)(w:World)(b:Nat)(F:List Bk)(n:CaN)(E:Nat->List Ent)(com fp:Nat)(e:Ending)(w':World):Prop:=
 ∃(v:Value) (t wh sq:Nat),e=.returned (.tuple #[.int .i64 (wh:Int),.int .i64 (sq:Int),v,.int .i64 0])/\com<=t/\t<=fp/\wh<=1/\t<=sq/\sq<=fp/\(∀r∈scanTo F [] n.jb n.jo n.jo,rseq r<=sq)/\
  Sl w' 37 4 v (E t).length ((E t).flatMap entC)/\From w.heap.size v/\Dv (fun j=>S j/\∀g,v.ownBlock=some g->g≠j) w' b F [] []/\Upd S w w'
theorem Hs.entries(h:Hs n Z a E R f0 com fp)(hok:n.Ok)(hN:a.next<=1099511627776){S:Nat->Prop}{w w':World}{b:Nat}{e:Ending}(he:EnOut S w b a.dF [] n.jo n.pa e w'):EnHi S w b a.dF n E com fp e w':=by
 obtain⟨v,L,wh',sq',c,rfl,hsl,hfr,hd,hu,hx⟩:=he;obtain⟨wh,s0,w1,w2,w3,hnw⟩:=h.newest hok hN;have c4:=h.c4;have c3:=h.c3;have c1:=h.c1;rw[hnw]at hx;rcases hx with⟨-,-,hx⟩|⟨-,Rs,hp,hle,r,hr,hx⟩
 .cases hx
 dsimp only at hr hx;obtain⟨sc1,sc2,sc3⟩:=h.scan n.jo (qXv _);have hlt:Rs.Pairwise (fun x y=>rseq x<rseq y):=by
  have hne:Rs.Pairwise (fun x y=>rseq x≠rseq y):=(hp.pairwise_iff (fun h=>fun e=>h e.symm)).2 sc2;exact(hle.and hne).imp (fun h=>by have:=h.1;have:=h.2;omega)
 obtain⟨r1,r2,r3,r4,r5,r6,r7⟩:=WU hlt s0 Rs.length (qXv _);rw[List.take_length]at r1 r2 r3 r4 r5 r6 r7;rw[<-hr]at r1 r2 r3 r4 r5 r6 r7;have hmem:∀x∈Rs,∃t,f0<t/\t<=fp/\x=Al R t:=fun x hx=>by
  obtain⟨t,t1,t2,-,e⟩:=sc1 x (hp.mem_iff.1 hx);exact⟨t,t1,t2,e⟩
 have hdi:∀i (hi:i<r.d.length),f0<s0+1+i/\s0+1+i<=fp/\natsI r.d[i]=R (s0+1+i):=fun i hi=>by
  obtain⟨q1,q2⟩:=r2 i hi;obtain⟨t,t1,t2,e⟩:=hmem _ q2;obtain⟨n1,n2,-⟩:=h.recN t1 (by omega);rw[e,n2]at q1;subst q1;rw[e];exact⟨t1,t2,n1⟩
 obtain⟨tE,htE⟩:=qqe (s0+r.d.length);have hchain:∀k,k<=r.d.length->apRs (enM (E s0)) ((r.d.map natsI).take k)=enM (E (s0+k)):=by
  intro k
  induction k with
  |zero=>intro _;rw[List.take_zero];rfl
  |succ k ih=>
   intro hk;obtain⟨q1,q2,q3⟩:=hdi k (by omega);have hkl:k<(r.d.map natsI).length:=by rw[qzg];omega
   rw[sa _ _ hkl,ih (by omega),qyy,q3];have:=(h.rc (s0+1+k) q1 (by omega)).2;rw[show s0+1+k-1=s0+k by omega]at this;rw[show s0+(k+1)=s0+1+k by omega,this]
 have hF:apRs (apM ((E s0).map Ent.toI)) (r.d.map natsI)=enM (E tE):=by
  have:=hchain r.d.length (qXv _);rw[qXp (by simp)]at this;rw[htE];exact this
 have htfp:tE<=fp:=by
  rcases qXt r.d.length with h0|h0
  .omega
  .have:=(hdi (r.d.length-1) (by omega)).2.1;omega
 have hcomt:com<=tE:=by
  refine Nat.le_of_not_lt fun hlt2=>?_;have hml:=qYa (tE+1-1) (show 0<n.jo by have:=hok.j1;omega);have hin:=hp.mem_iff.2 (sc3 (tE+1) (by omega) (by omega) hml);have hq:=r3 _ hin;rw[(h.recN (t:=tE+1) (by have:=h.f1;omega) (by omega)).2.1,r1]at hq;omega
 have hen:=h.en tE (by omega);have hmL:∀e,e∈(E tE).map Ent.toI↔enM (E tE) e.b=some e:=fun e=>by
  unfold enM;rw[WS hen.nd];exact⟨fun h=>⟨h,rfl⟩,fun h=>h.1⟩
 have hsq:r.g<=fp:=by
  rcases r7 with e|⟨x,hx,e⟩
  .omega
  .obtain ⟨t,t1,t2,rfl⟩:=hmem x hx;rw[(h.recN t1 (by omega)).2.1]at e;omega
 rw[hF]at hx;rcases hx with⟨-,-,hx|⟨L0,hL0,hx⟩⟩|⟨rfl,rfl,rfl,hL,hns,hst⟩
 .exact absurd (h.en s0 (by omega)).nd hx
 .refine absurd (qXf.2 ((qXf.1 hL0.1).imp_of_mem fun{x y} hx hy hb hs=>hb ?_)) hx;obtain⟨x',hx',rfl⟩:=qzv.1 ((hmL x).2 ((hL0.2 x).1 hx));obtain⟨y',hy',rfl⟩:=qzv.1 ((hmL y).2 ((hL0.2 y).1 hy));have hs:(x'.s:Int)=(y'.s:Int):=hs;rw[vl hen.2.1 hx' hy' (by omega)]
 .have hLe:L=(E tE).map Ent.toI:=WT EI.b hst (qXf.2 (hen.2.2.imp fun h=>by show(_:Int)<_;simp only[Ent.toI];omega)) (fun x=>(hL.2 x).trans (hmL x).symm);rw[hLe,qzg,YK]at hsl;exact⟨v,tE,_,r.g,rfl,hcomt,htfp,w1,by omega,hsq,fun x hx=>r4 x (hp.mem_iff.2 hx),hsl,hfr,hd,hu⟩
end
end Go.Proofs.YtfhfbpmlnjdfoaaGreatDoor
