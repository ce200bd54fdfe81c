/- The clock's Evict. A cache's clock: Evict. A c -/
import Derived.Test.YtfhfbpmlnjdfoaaGreatDoorG14
set_option maxRecDepth 100000
set_option maxHeartbeats 16000000
namespace Go.Proofs.YtfhfbpmlnjdfoaaGreatDoor.EvG
open Go Go.RowKit Go.Proofs.YtfhfbpmlnjdfoaaGreatDoor
theorem VH{w:World}{v:Value}{l:List Int}(h:Sl w 3 1 v l.length (ints l))(hle:l.length<=4096)(hi:0<l.length):
  Calls Tryz.prog 238 #[v,.int .i64 0,.int .i64 1] w fun e w'=>∃ao n c,e=.returned (.slice ao n c)/\(Value.slice ao n c).ownBlock=v.ownBlock/\Sl w' 3 1 (.slice ao n c) l.tail.length (ints l.tail)/\Upd (ownS v) w w':=by
 have:=sG h hle hi;rw[List.eraseIdx_zero]at this;refine this.mono ?_;rintro e w' ⟨v',rfl,h1,h2,h3⟩;obtain⟨ao,c,rfl⟩:=h2.rd.nil_iff;exact⟨ao,_,c,rfl,h1,h2,h3⟩
theorem WA{w:World}{g o c n:Nat}{cur:Array Value}{e:TypeId}{l:List Int}(hg:w.heap[g]?=some (.cells cur e (0,0)))(hc:∀j u,(ints l)[j]?=some u->cur[o+j]?=some u)(hn:l.length<=maxLen)(A:Addr)(i:Nat)(hA:(if c=i then some (⟨g,o,none⟩:Addr)else some ⟨g,o+i,none⟩)=some A)(hnl:n=l.length-i)(hcl:c=i->l.length<=i)(cc:Nat):
  Rd w 1 (.slice (some A) n cc) (l.drop i).length (ints (l.drop i)):=by
 subst hnl;refine⟨by simp,by rw[qzf];omega,some A,cc,by rw[qzf],(fun h=>by cases h),fun b hb j u hj=>?_⟩;cases hb;have hj':(ints l)[i+j]?=some u:=by simpa[ints,List.getElem?_drop]using hj
 by_cases h:c=i
 .have:=(qyp.1 hj').1;rw[yq]at this;have:=hcl h;omega
 .rw [if_neg h]at hA;cases hA;rw[qxa,za hg,qXr];exact hc _ _ hj'
theorem RW{w:World}{g o:Nat}{cur:Array Value}{e:TypeId}{l:List Int}(hg:w.heap[g]?=some (.cells cur e (0,0)))(hc:∀j u,(ints l)[j]?=some u->cur[o+j]?=some u)(hn:l.length<=maxLen)(i:Nat)(hi:i<=l.length)(cc:Nat):
  Rd w 1 (.slice (some ⟨g,o,none⟩) i cc) (l.take i).length (ints (l.take i)):=by
 have hlt:(l.take i).length=i:=by rw[qzk];omega
 refine⟨by simp,by rw[hlt];omega,some ⟨g,o,none⟩,cc,by rw[hlt],(fun h=>by cases h),fun b hb j u hj=>?_⟩;cases hb;have hj1:=(qyp.1 hj).1;rw[yq,hlt]at hj1;have hj':(ints l)[j]?=some u:=by
  rw[<-hj];simp[ints,hj1]
 rw[qxa,za hg];exact hc _ _ hj'
theorem Tw{w:World}{b mb N most few:Nat}{vk vg:Value}{K G:List Int}{A:Int->Bool}(h:CkAt w b mb N vk vg most few K A G)(xv:Value)(fm:Int->Bool)(hmay:MayIs xv fm w):
  Calls Tryz.prog 165 #[.pointer (some ⟨b,0,none⟩),mayV xv] w fun e w'=>∃key code K' A' G' mb' vk' vg',e=.returned (.tuple #[.int .i64 key,.int .i64 code])/\
   EvOut fm few K A G key code K' A' G'/\CkMem w' b mb' N vk' vg' most few K' A' G'/\(∀j,US b mb' vk' vg' j->US b mb vk vg j\/w.heap.size<=j)/\Upd (fun j=>j=b) w w':=by
 obtain⟨i0,hi0,hz0,hz1',hz2⟩:=qZa wJ;have hq:∀w,(binOp .eql 210 (mayV xv) .nilFunc).run Tryz.prog w=.ok (.bool false) w:=fun _=>by kernel_rfl
 have hmf:=qqf;have H:=qqh h;have hblt:=h.blt;have hu1:Upd (fun _=>False) w (w.alloc (.cells #[mayV xv] 210)).drew:=((uur _ _).alloc _).drew;have H1:=h.keep hu1 (fun _ _ h=>h);have hkl:=h.kle;have hgl:=h.gle;have C1:Hid (((w.alloc (.cells #[mayV xv] 210)).drew.cell? ⟨b,2,none⟩=some vk)/\((w.alloc (.cells #[mayV xv] 210)).drew.cell? ⟨b,3,none⟩=some (.map (some mb)))/\
   ((w.alloc (.cells #[mayV xv] 210)).drew.cell? ⟨b,4,none⟩=some vg)):=⟨H1.c.2.2.1,H1.c.2.2.2.1,H1.c.2.2.2.2⟩
 have M1:Hid ((w.alloc (.cells #[mayV xv] 210)).drew.cell? ⟨w.heap.size,0,none⟩=some (mayV xv)):=za (zc w _ rfl) 0;have H1:=qqh H1;have HU1:=qqh hu1;have g2:=C1.out.1;have g3:=C1.out.2.1;have g4:=C1.out.2.2;clear h hu1;go_enter Tryz.func165,Tryz.ntmps165
 go_wp2
 refine wp_scope_straight ?_;go_wp2
 go_region_held3 (fun W=>W.cell? ⟨b,2,none⟩=some vk/\W.cell? ⟨b,3,none⟩=some (.map (some mb))/\W.cell? ⟨b,4,none⟩=some vg) (go_keep)
  (first
  |((go_at_call 113;refine(yz H1.o.ks.rd (by omega)).mono ?_;rintro e w3 ⟨v3,rfl,hs3,hf3,hb3⟩;have H3:=H1.o.below hb3;have k2:=H3.c.2.2.1;have k3:=H3.c.2.2.2.1;have k4:=H3.c.2.2.2.2;have H3:=qqh H3))
  |((go_at_call 235;refine(yQ H3.o.set).mono ?_;rintro e w4 ⟨rfl,hset4,hb4⟩;have H4:=H3.o.below hb4;have l2:=H4.c.2.2.1;have l3:=H4.c.2.2.2.1;have l4:=H4.c.2.2.2.2;have H4:=qqh H4))
  |((go_at_call 113;refine(yz H4.o.gs.rd (by omega)).mono ?_;rintro e w5 ⟨v5,rfl,hs5,hf5,hb5⟩;have H5:=H4.o.below hb5;have m2:=H5.c.2.2.1;have m3:=H5.c.2.2.2.1;have m4:=H5.c.2.2.2.2;have H5:=qqh H5)))
 have hz1:(w.alloc (.cells #[mayV xv] 210)).drew.heap.size=w.heap.size+1:=by simp
 have hb35:Below w3.heap.size w3 w5:=hb4.trans (hb5.mono hb4.size);have hU5:Hid (Upd (fun _=>False) w w5):=HU1.o.trans (uuo (hb3.trans (hb35.mono hb3.size)));have HK5:=qqh (hs3.keep (uuo (S:=fun _=>False) hb35) (fun _ _ h=>h));have HA5:=qqh (hset4.keep (uuo (S:=fun _=>False) hb5) (fun h=>h));have HG5:=qqh hs5;have M5:=qqh ((hb35.cell (p:=⟨w.heap.size,0,none⟩) (by have:=hb3.size;simp at this⊢;omega)).trans ((hb3.cell (p:=⟨w.heap.size,0,none⟩) (by simp)).trans M1.out));have HO:Hid ((∀g,v3.ownBlock=some g->w.heap.size<g/\g<w3.heap.size)/\w.heap.size<w3.heap.size/\(∀g,v5.ownBlock=some g->w3.heap.size<g)):=by
  have:=hb3.size;have:=hset4.lt;refine⟨fun g hg=>⟨?_,hs3.lt hg⟩,by omega,fun g hg=>?_⟩
  .have:=hf3 g hg;omega
  .have:=hf5 g hg;omega
 obtain⟨aok,ck,rfl⟩:=hs3.rd.nil_iff;obtain⟨aog,cg,rfl⟩:=hs5.rd.nil_iff;generalize hmb:w3.heap.size=mb2 at*;clear hb3 hb4 hb5 hb35 hs3 hs5 hf3 hf5 hset4 m2 m3 m4 l2 l3 l4 k2 k3 k4 g2 g3 g4 H3 H4 H1 C1 M1 HU1 hmb hz1;go_wp2
 refine wp_label ?_;go_wp2
 go_loopg[12] (2*K.length) (fun g i wr=>∃h:Nat,h+g=2*K.length/\i=.int .i64 h/\∃A2,SetAt wr mb2 N A2/\(∀x,A2 x=true->A x=true)/\((h=0->A2=A)/\evGo fm K g h A2=evGo fm K (2*K.length) 0 A)/\(∀j (hj:j<K.length),j<h->(fm K[j]=false\/A K[j]=true)/\(fm K[j]=true->A2 K[j]=false))/\Upd (fun j=>j=mb2) w5 wr)
 case atStart=>exact⟨0,by omega,rfl,A,HA5.o,fun _ h=>h,⟨fun _=>rfl,rfl⟩,fun j hj h=>by omega,uur _ _⟩
 case round=>
  obtain⟨h,hh,rfl,A2,hs2,hsub,hz0,hz1,hur⟩:=hrel;have R0:=Y5 hs2 hsub hz0 hz1 hur;clear hs2 hsub hz0 hz1 hur;by_cases hlt:h<2*K.length
  .have hpl:h%K.length<K.length:=qYa _ (by omega);obtain⟨p,hp⟩:=qqe (h%K.length);rw[<-hp]at hpl;have hmod:(h:Int)%(K.length:Int)=(p:Int):=by rw[hp];exact(Int.natCast_emod h K.length).symm
   have HP:=qqh hp;clear hp;have hK:=HK5.o.keep R0.out.2.2.2.2 (fun g hg e=>by have:=HO.o.1 g hg;omega);have HKr:=qqh hK;obtain⟨gk3,ok3,ck3,hv3,hg3,hc3⟩:=hK.rd.at (by omega);cases hv3;have hcp:=hc3 p _ (yp hpl);have hMr:=(R0.out.2.2.2.2.cell (p:=⟨w.heap.size,0,none⟩) (zL M5.out).2 (by have:=HO.o.2.1;simp;omega)).trans M5.out;have hkr:InR K[p]:=H5.o.good.kr _ (qyz hpl);obtain⟨k,hk⟩:=qqe (K[p]);rw[<-hk]at hcp hkr;have HKK:=qqh hk;clear hk hK hc3;have q0:¬(K.length:Int)=0:=by omega
   go_wp2_with fail
   refine(Tt hmay k hkr _ (hU5.out.new R0.out.2.2.2.2 (fun i hi e=>by have:=HO.o.2.1;omega)) w.heap.size hMr).mono ?_;rintro e w6 ⟨rfl,hb6⟩;have hA6:=qqh (R0.out.1.keep (uuo (S:=fun _=>False) hb6) (fun h=>h));have HU6:=qqh (R0.out.2.2.2.2.trans (uuo hb6));clear hb6 hcp hMr hg3;rcases hmb:fm k with _|_
   .have HM:=qqh hmb;clear hmb;go_wp2
    go_roundg (gk-1)
    case measure=>omega
    case rel=>
     refine⟨h+1,by omega,by go_num,A2,hA6.out,R0.out.2.1,⟨by omega,(VE (by omega) HKK.o HP.o HM.o).symm.trans R0.out.2.2.1.2⟩,fun j hj hjh=>?_,HU6.o⟩;by_cases h0:j<h
     .exact R0.out.2.2.2.1 j hj h0
     .have hp0:p=j:=by rw[HP.o,show h=j by omega];exact qXz hj
      subst hp0;rw[<-HKK.o];exact⟨.inl HM.o,fun e=>by rw[HM.o]at e;cases e⟩
   .have HM:=qqh hmb;clear hmb;go_wp2_with fail
    refine(vH hA6.out k hkr).mono ?_;rintro e w7 ⟨rfl,hb7⟩;have hA7:=qqh (hA6.out.keep (uuo (S:=fun _=>False) hb7) (fun h=>h));have HU7:=qqh (HU6.o.trans (uuo hb7));clear hb7;rcases hask:A2 k with _|_
    .have HA:=qqh hask;clear hask;go_wp2
     simp only[hmod];clear hmod;have hz7:w.heap.size<w7.heap.size:=by have:=HU7.o.size;have:=hU5.out.size;have:=HO.o.2.1;have:=HA5.o.lt;omega
     have H7:=qqh (H5.o.keep HU7.o (fun j hj e=>by subst e;have:=H.o.slt _ hj;have:=HO.o.2.1;omega));have hK7:Sl w7 3 1 (.slice (some ⟨gk3,ok3,none⟩) K.length ck) K.length (ints K):=HK5.o.keep HU7.o (fun g hg e=>by have:=HO.o.1 g hg;omega);obtain⟨_,⟨h1,h2⟩|⟨g9,o9,c9,cur,h1,hg9,hn9,hm9,hz9,hc9⟩⟩:=hK7
     .cases h1
     cases h1;obtain⟨Aa,hAa,hsrc⟩:∃Aa:Addr,(if ck=p+1 then some (⟨gk3,ok3,none⟩:Addr)else some ⟨gk3,ok3+(p+1),none⟩)=some Aa/\Hid (∀W,Upd (fun _=>False) w7 W->Rd W 1 (.slice (some Aa) (K.length-(p+1)) (ck-(p+1))) (K.drop (p+1)).length (ints (K.drop (p+1)))):=by
      have hml:K.length<=maxLen:=by omega
      by_cases e:ck=p+1
      .rw [if_pos e];refine⟨_,rfl,fun W hW=>Rd.keep (WA hg9 hc9 hml _ (p+1) (if_pos e) rfl (fun _=>by omega) _) hW (fun _ _ h=>h)⟩
      .rw [if_neg e];refine⟨_,rfl,fun W hW=>Rd.keep (WA hg9 hc9 hml _ (p+1) (if_neg e) rfl (fun h=>absurd h e) _) hW (fun _ _ h=>h)⟩
     have hRb:Hid (∀W,Upd (fun _=>False) w7 W->Rd W 1 (.slice (some ⟨gk3,ok3,none⟩) p ck) (K.take p).length (ints (K.take p))):=fun W hW=>Rd.keep (RW hg9 hc9 (by omega) p (by omega) _) hW (fun _ _ h=>h);have u1:Hid (Upd (fun _=>False) w7 (w7.alloc (.cells #[.slice (some Aa) (K.length-(p+1)) (ck-(p+1)),.slice (some ⟨gk3,ok3,none⟩) p ck] 87)).drew):=((uur _ _).alloc _).drew;have u2:Hid ((w7.alloc (.cells #[.slice (some Aa) (K.length-(p+1)) (ck-(p+1)),.slice (some ⟨gk3,ok3,none⟩) p ck] 87)).drew.heap[w7.heap.size]?=some (.cells #[.slice (some Aa) (K.length-(p+1)) (ck-(p+1)),.slice (some ⟨gk3,ok3,none⟩) p ck] 87 (0,0))):=zc _ _ rfl;have hlen:Hid ((K.drop (p+1)).length+(K.take p).length<=4096):=by show(K.drop (p+1)).length+(K.take p).length<=4096;rw[qzf,qzk];omega
     have k1:¬p+1>ck:=by omega
     have hic:p<=ck:=by omega
     have hjc:p+1<=ck:=by omega
     have hj0:(0:Int)<=(p:Int)+1:=by omega
     have hj1:(p:Int)+1<=(K.length:Int):=by omega
     have hj2:0<=(p:Int)+1/\(p:Int)+1<=(K.length:Int):=⟨hj0,hj1⟩
     have hwr:IntKind.i64.wrap ((p:Int)+1)=(p:Int)+1:=qxv _ (by omega);have htn:((p:Int)+1).toNat=p+1:=by omega
     have hlk:Hid ((K.drop (p+1)).length+(K.take p).length=(restK K p).length):=by show _=_;unfold restK;rw[qzd]
     have hli:Hid (ints (K.drop (p+1))++ints (K.take p)=ints (restK K p)):=by show _=_;unfold restK;rw[ZD]
     clear hc9 hg9 hz9 hm9
     go_region_with (go_at_call 237;refine(Xb u2.out (hsrc.out _ u1.out) (hRb.out _ u1.out) hlen.out).mono ?_;rintro e w8 ⟨v8,rfl,hs8,hf8,hb8⟩;rw[hlk.out,hli.out]at hs8;obtain⟨ao8,c8,rfl⟩:=hs8.rd.nil_iff;have hU8:=qqh (u1.out.trans (uuo hb8));have H8:=H7.o.keep hU8.out (fun _ _ h=>h);have s2:=H8.c.2.2.1;have f2:=H8.fz 2;have H8:=qqh H8)
     have hz8:w7.heap.size<=w8.heap.size:=hU8.out.size;have hF8:∀g,(Value.slice ao8 (restK K p).length c8).ownBlock=some g->w7.heap.size<=g/\g<w8.heap.size:=fun g hg=>⟨by have:=hf8 g hg;simp at this;omega,hs8.lt hg⟩
     have hstr8:=H8.o.str;have hG8:=HG5.o.keep (HU7.o.trans (hU8.out.mono (fun _ _ h=>h.elim))) (fun g hg e=>by have:=HO.o.2.2 g hg;omega);have hA8:=hA7.out.keep hU8.out (fun h=>h);obtain⟨v8,hv8⟩:=qqe (Value.slice ao8 (restK K p).length c8);have P8:=Y6 hs8 hF8 hstr8 hG8 hA8 hv8;clear hs8 hF8 hf8 hb8 hG8 hA8 hstr8 s2 f2;rw[<-hv8];clear hv8;have hbv8:v8.ownBlock≠some b:=by rw[P8.out.2.2.2.2.2];intro e;have:=(P8.out.2.1 b e).1;omega
     have hbv5:(Value.slice aog G.length cg).ownBlock≠some b:=by intro e;have:=HO.o.2.2 b e;have:=HO.o.2.1;omega
     have hbmb:mb2≠b:=by have:=HO.o.2.1;omega
     have str9:=zh P8.out.2.2.1 2 v8;have ks9:=(P8.out.2.2.2.2.2▸P8.out.1:Sl w8 3 1 v8 (restK K p).length (ints (restK K p))).keep_ne (zi w8 b 2 v8) hbv8;have gs9:=P8.out.2.2.2.1.keep_ne (zi w8 b 2 v8) hbv5;have as9:=P8.out.2.2.2.2.1.keep (zi w8 b 2 v8) hbmb;have U9:Upd (fun j=>j=b) w (w8.setCell ⟨b,2,none⟩ v8):=
      Upd.trans (Upd.new hU5.out (HU7.o.trans (hU8.out.mono (fun _ _ h=>h.elim))) (fun i hi e=>by have:=HO.o.2.1;omega)|>.mono (fun _ _ h=>h.elim)) (zi w8 b 2 v8)
     have hz9:w8.heap.size=(w8.setCell ⟨b,2,none⟩ v8).heap.size:=by simp
     generalize w8.setCell ⟨b,2,none⟩ v8=w9 at*;have s3:=za str9 3;have f3:=zf str9 3;simp at s3;have Q9:=Y6 str9 ks9 gs9 as9 U9 hz9;clear str9 ks9 gs9 as9 U9 hz9;have G10:=qqh (Q9.out.2.2.1.keep_ne (zi w9 b 3 (.map (some mb2))) hbv5);have hm1:Hid (G.length+1<=maxLen):=by show G.length+1<=maxLen;unfold maxLen;omega
     have hm2:Hid ((G.length+1)*8<=140737488355328):=by show _<=_;omega
     have hone:Hid (∀u∈[Value.int .i64 k],u.oneCell'=true):=by intro u hu;simp at hu;subst hu;rfl
     have hx10:Hid (Value.slice (some ⟨w9.heap.size,0,none⟩) 1 1=.slice (some ⟨(w9.setCell ⟨b,3,none⟩ (.map (some mb2))).heap.size,0,none⟩) 1 1):=by show _=_;simp
     go_wp2_with (at_builtin;refine zP rfl (.tmp 82) (.tmp 84) 87 rfl i0 (.int .i64 0) 8 Tryz.underlying87 hi0 hz0 hz1' hz2 rfl (by decide) rfl G10.out [.int .i64 k] hx10.out rfl hone.out hm1.out hm2.out ?_)
     intro v11 w11 hs11 hu11 hbf11;obtain⟨ao11,c11,rfl⟩:=hs11.rd.nil_iff;have hz10:w9.heap.size=(w9.setCell ⟨b,3,none⟩ (.map (some mb2))).heap.size:=by simp
     have hob11:∀g,(Value.slice ao11 (G.length+1) c11).ownBlock=some g->mb2<g/\(g<w7.heap.size\/w8.heap.size<=g):=by
      intro g hg;have ht:=HG5.o.lt (g:=g);have hsz:=HU7.o.size;rcases hbf11 with e|⟨g',e,hge⟩
      .rw [e]at hg;exact⟨HO.o.2.2 g hg,.inl (by have:=ht hg;omega)⟩
      .rw [e]at hg;cases hg;have:=Q9.out.2.2.2.2.2;have:=HA5.o.lt;exact⟨by omega,.inr (by omega)⟩
     have str10:=zh Q9.out.1 3 (.map (some mb2));have str11:=(hu11.block b (zd str10) (fun e=>hbv5 e)).trans str10;have str12:=zh str11 4 (.slice ao11 (G.length+1) c11);have s4:=za str11 4;have f4:=zf str11 4;simp at s4;have hd58:Dis v8 (Value.slice aog G.length cg):=fun g h1 h2=>by
      have:=(P8.out.2.1 g (by rw[<-P8.out.2.2.2.2.2];exact h1)).1;have:=HG5.o.lt h2;have:=HU7.o.size;omega
     have hb11:(Value.slice ao11 (G.length+1) c11).ownBlock≠some b:=fun e=>by have:=(hob11 b e).1;have:=HO.o.2.1;omega
     have ks12:=((Q9.out.2.1.keep_ne (zi w9 b 3 (.map (some mb2))) hbv8).keep_dis hd58 hu11).keep_ne (zi w11 b 4 (.slice ao11 (G.length+1) c11)) hbv8;have gs12:=hs11.keep_ne (zi w11 b 4 (.slice ao11 (G.length+1) c11)) hb11;have as12:=((Q9.out.2.2.2.1.keep (zi w9 b 3 (.map (some mb2))) hbmb).keep hu11 (fun e=>by have:=HO.o.2.2 mb2 e;omega)).keep (zi w11 b 4 (.slice ao11 (G.length+1) c11)) hbmb;have U12:=(((Q9.out.2.2.2.2.1.trans (zi w9 b 3 (.map (some mb2)))).new hu11 (fun i hi e=>by have:=HO.o.2.2 i e;have:=HO.o.2.1;omega))).trans (zi w11 b 4 (.slice ao11 (G.length+1) c11));have e12:ints G++[.int .i64 k]=ints (G++[k]):=by simp
     rw[e12]at gs12;have M12:CkMem (w11.setCell ⟨b,4,none⟩ (.slice ao11 (G.length+1) c11)) b mb2 N v8 (.slice ao11 (G.length+1) c11) most few (restK K p) A2 (G++[k]):={
      str:=by simpa using str12
      ks:=ks12
      gs:=by simpa using gs12
      set:=as12
      kb:=hbv8
      gb:=hb11
      km:=fun e=>by have:=(P8.out.2.1 mb2 (by rw[<-P8.out.2.2.2.2.2];exact e)).1;have:=HA5.o.lt;have:=HU7.o.size;omega
      gm:=fun e=>by have:=(hob11 mb2 e).1;omega
      bm:=hbmb
      kg:=fun g h1 h2=>by
       have h3:=P8.out.2.1 g (by rw[<-P8.out.2.2.2.2.2];exact h1);have h4:=(hob11 g h2).2;omega}
     have HM12:=qqh M12;have HU12:=qqh U12;clear M12 U12 as12 gs12 ks12 e12 hbf11 hu11 hs11 str10 str11 str12 hb11 hd58;go_wp2
     generalize w11.setCell ⟨b,4,none⟩ (.slice ao11 (G.length+1) c11)=w12 at*;have c12:=HM12.o.c;have c12a:=c12.2.1;have c12b:=c12.2.2.2.2;clear c12 s4 f4 s3 f3;have HV:Hid (EvYes fm few K A G k (restK K p) A2 (trimG few (G++[k]))):=by
      refine⟨⟨p,hpl,HKK.o,rfl,fun hx=>?_,?_,fun j hj hjp e=>(R0.out.2.2.2.1 j hj (by have:=Nat.mod_le h K.length;rw[<-HP.o]at this;omega)).2 e⟩,rfl,HA.o,R0.out.2.1⟩
      .by_cases h0:h=0
       .refine ⟨?_,R0.out.2.2.1.1 h0⟩;rw[HP.o,h0];exact Nat.zero_mod _
       .have hh0:K.head?=some K[0]:=by rw[List.head?_eq_getElem?];exact qyn (by omega)
        have h1:=(R0.out.2.2.2.1 0 (by omega) (by omega)).1;have h2:=hx _ hh0;rw[h2.1,h2.2]at h1;simp at h1
      .by_cases h0:h=0
       .exact .inl ⟨by rw[HP.o,h0];exact Nat.zero_mod _,R0.out.2.2.1.1 h0⟩
       .right
        by_cases h1:h<K.length
        .left;rw[HP.o,qXz h1];omega
        .right
         intro x hx;obtain⟨j,hj,rfl⟩:=qza hx;exact(R0.out.2.2.2.1 j hj (by omega)).1
     have HE:Hid (evR fm few K A G=(k,0,restK K p,A2,trimG few (G++[k]))):=by
      show _=_;have e:K.getD p 0=k:=by rw[HKK.o];simp[hpl]
      unfold evR;rw[<-R0.out.2.2.1.2,Tv (by omega) HKK.o HP.o HM.o HA.o];simp only[e]
     have hob:Hid (∀(v13:Value),(v13.ownBlock=(Value.slice ao11 (G.length+1) c11).ownBlock)->∀j,US b mb2 v8 v13 j->US b mb vk vg j\/w.heap.size<=j):=by
      intro v13 hv j hj;rcases hj with rfl|rfl|hj|hj
      .exact .inl (.inl rfl)
      .right;have:=HO.o.2.1;omega
      .right;have:=(P8.out.2.1 j (by rw[<-P8.out.2.2.2.2.2];exact hj)).1;omega
      .right;rw[hv]at hj;have:=(hob11 j hj).1;have:=HO.o.2.1;omega
     by_cases hf:few<G.length+1
     .have qf:decide ((few:Int)<(G.length:Int)+1)=true:=by simp;omega
      go_quiet(fail)
      generalize hw13:w12.drewN nq=w13;have hu13:Upd (fun _=>False) w12 w13:=by rw[<-hw13];exact(uur _ _).drewN _
      have M13:=qqh (HM12.o.keep hu13 (fun _ _ h=>h));have HU13:=qqh (HU12.o.trans (hu13.mono (fun _ _ h=>h.elim)));clear hw13 hu13 c12a c12b;have c13:=M13.out.c.2.2.2.2;have hl13:Hid (0<(G++[k]).length/\(G++[k]).length<=4096/\(G++[k]).tail=trimG few (G++[k])):=by
       refine⟨by simp,by simp;omega,?_⟩;unfold trimG;rw[if_pos (by simp;omega)]
      go_wp2_with fail
      refine(VH M13.out.gs hl13.out.2.1 hl13.out.1).mono ?_;rintro e w14 ⟨ao14,n14,c14,rfl,hbe,hs14,hu14⟩;have M15:=qqh (M13.out.setGhosts hu14 hs14 (.inl hbe));have U15:Hid (Upd (fun j=>j=b) w (w14.setCell ⟨b,4,none⟩ (.slice ao14 n14 c14))):=
       (HU13.o.new hu14 (fun i hi e=>by have:=(hob11 i e).1;have:=HO.o.2.1;omega)).trans (zi _ _ _ _)
      have hstr14:=(hu14.block b (zd M13.out.str) (fun e=>M13.out.gb e)).trans M13.out.str;have s14:=za hstr14 4;have f14:=zf hstr14 4;simp at s14;have HB14:=qqh hbe;clear hu14 hs14 hbe hstr14 c13;dsimp only;clear hwr htn hAa;go_wp2
      rw[qxr];go_ret2
      refine⟨k,0,restK K p,A2,trimG few (G++[k]),mb2,v8,_,rfl,⟨.inr ⟨rfl,HV.o⟩,HE.o⟩,?_,hob.out _ HB14.o,U15.out⟩;rw[<-hl13.out.2.2];exact M15.out
     .have qf:decide ((few:Int)<(G.length:Int)+1)=false:=by simp;omega
      go_quiet(fail)
      have hT:Hid (G++[k]=trimG few (G++[k])):=by show _=_;unfold trimG;rw[if_neg (by simp;omega)]
      go_wp2
      rw[qxr];go_ret2
      refine⟨k,0,restK K p,A2,trimG few (G++[k]),mb2,v8,_,rfl,⟨.inr ⟨rfl,HV.o⟩,HE.o⟩,?_,hob.out _ rfl,HU12.o.drewN _⟩;rw[<-hT.out];exact HM12.o.keep ((uur (fun _=>False) _).drewN _) (fun _ _ h=>h)
    .have HA:=qqh hask;clear hask;obtain⟨w8,hrun,hs8,hu8,hz8⟩:=SetAt.drop hA7.out (x:=k) hkr 0;have R8:=Y2 hs8 hu8;clear hs8 hu8 hz8;go_wp2
     go_roundg (gk-1)
     case measure=>omega
     case rel=>
      refine⟨h+1,by omega,by go_num,updB A2 k false,R8.out.1,?_,⟨by omega,(Tu (by omega) HKK.o HP.o HM.o HA.o).symm.trans R0.out.2.2.1.2⟩,fun j hj hjh=>?_,HU7.o.trans R8.out.2⟩
      .intro x hx;by_cases e:x=k
       .subst e;simp[updB]at hx
       .simp only[updB,if_neg e]at hx;exact R0.out.2.1 x hx
      .by_cases h0:j<h
       .refine ⟨(R0.out.2.2.2.1 j hj h0).1,fun e=>?_⟩;unfold updB;split
        .rfl
        .exact (R0.out.2.2.2.1 j hj h0).2 e
       .have hp0:p=j:=by rw[HP.o,show h=j by omega];exact qXz hj
        subst hp0;rw[<-HKK.o];exact⟨.inr (R0.out.2.1 k HA.o),fun _=>by simp[updB]⟩
  .have he:Hid (∀x∈K,fm x=false\/A x=true):=by
    intro x hx;obtain⟨j,hj,rfl⟩:=qza hx;exact(R0.out.2.2.2.1 j hj (by omega)).1
   have hE:Hid (evR fm few K A G=(0,14,K,A,G)):=by
    show _=_;unfold evR;rw[<-R0.out.2.2.1.2,show gk=0 by omega];rfl
   have hM:Hid (CkMem wr b mb N vk vg most few K A G):=(H5.o.keep R0.out.2.2.2.2 (fun j hj e=>by subst e;have:=H.o.slt _ hj;have:=HO.o.2.1;omega)).toCkMem;have hU:Hid (Upd (fun j=>j=b) w wr):=(hU5.out.new R0.out.2.2.2.2 (fun i hi e=>by have:=HO.o.2.1;omega)).mono (fun _ _ h=>h.elim);go_wp2
   rw[qxr];go_ret2
   exact⟨0,14,K,A,G,mb,vk,vg,rfl,⟨.inl ⟨rfl,rfl,rfl,rfl,rfl,he.out⟩,hE.out⟩,hM.out,fun j hj=> .inl hj,hU.out⟩
theorem evict_ck{S:Nat->Prop}{w:World}{b N most few:Nat}{K G:List Int}{A:Int->Bool}(h:Ck S w b N most few K A G)(hn:∀j,w.heap.size<=j->S j)(xv:Value)(fm:Int->Bool)(hmay:MayIs xv fm w):
  Calls Tryz.prog 165 #[.pointer (some ⟨b,0,none⟩),mayV xv] w fun e w'=>∃key code K' A' G',e=.returned (.tuple #[.int .i64 key,.int .i64 code])/\
   EvOut fm few K A G key code K' A' G'/\Ck S w' b N most few K' A' G'/\Upd S w w':=by
 obtain⟨mb,vk,vg,h,hS⟩:=h;refine(Tw h xv fm hmay).mono ?_;rintro e w' ⟨key,code,K',A',G',mb',vk',vg',rfl,ho,hm,hb,hu⟩;exact⟨key,code,K',A',G',rfl,ho,⟨mb',vk',vg',⟨hm,ho.good h.good⟩,fun j hj=>(hb j hj).elim (hS j) (hn j)⟩,hu.mono (fun j _ hj=>by subst hj;exact hS _ (.inl rfl))⟩
end Go.Proofs.YtfhfbpmlnjdfoaaGreatDoor.EvG
namespace Go.Proofs.YtfhfbpmlnjdfoaaGreatDoor
open Go Go.RowKit
def JO(own:Nat->Nat)(w:World)(c:Nat)(n:CaN)(p:CaP)(a:CaS)(e:Ending)(w':World):Prop:=
 ∃key code K' A' H',e=.returned (.tuple #[.int .i64 key,.int .i64 code])/\EvG.EvOut (cleanB a.ps) n.sl a.K a.A a.H key code K' A' H'/\∃own',CaAt own' w' c n p {a with K:=K',A:=A',H:=H'}/\Did own own' w w'
section
variable{own:Nat->Nat}{w w':World}{c:Nat}{n:CaN}{p:CaP}{a:CaS}
theorem Tx(h:CaAt own w c n p a):EvG.MayIs (ptr c) (cleanB a.ps) w:=fun _ k _ hu=>qg (h.new hu) k
theorem VI(h:CaAt own w c n p a):Calls Tryz.prog 165 #[ptr p.ck,EvG.mayV (ptr c)] w (JO own w c n p a):=
 (EvG.evict_ck h.open8 (fun _ h=> .inr h) (ptr c) (cleanB a.ps) (Tx h)).mono fun _ _ ⟨key,code,K',A',H',he,ho,hc,hu⟩=>⟨key,code,K',A',H',he,ho,_,h.turn8 hu hc,h.did8 hu⟩
end
abbrev CaS.noted(n:CaN)(a:CaS)(op block slot:Int)(d:Bool)(sum:Int):CaS:={a with next:=a.next+1,W:=a.W++[(a.next,sectR (jaddX a.next n.jo op block slot d sum))]}
abbrev CaS.left(n:CaN)(a:CaS)(k:Int):CaS:={a.noted n 1 k 0 false 0 with ps:=dropL a.ps k,sums:=upd1 a.sums k none,st:=turnList a.st (getV a.ps k).1 3}
theorem ZZ{own:Nat->Nat}{w:World}{c:Nat}{n:CaN}{p:CaP}{a:CaS}(h:CaAt own w c n p a)(k:Int)(hg:getC a.ps k=0)(hroom:a.next<=a.cov+n.jo)(hmx:a.next<=1099511627776)(hmay:mayR (jaddX a.next n.jo 1 k 0 false 0)=true):
  Calls Tryz.prog 167 #[ptr c,.int .i64 k] w (zu own w c n p (a.left n k) (.int .i64 (turnCode a.st (getV a.ps k).1 3))):=by
 have hkr:0<=k/\k<4096:=by
  have h1:=h.pl;have h2:=h.ok.b2;unfold getC at hg;split at hg
  .cases hg
  .omega
 obtain⟨hk0,hk1⟩:=hkr;have HJ:=qqh (sX h hroom hmx 0 0 1 k 0 false 0 hmay);obtain⟨-,-,-,d3,d4,-,-,-,-⟩:=h.cells;have H:=Y2 h hg;clear h hg hroom hmx hmay;go_enter Tryz.func167,Tryz.ntmps167
 go_wp2_with fail
 refine HJ.o.mono ?_;rintro e w1 ⟨rfl,own1,h1,hd1⟩;have HP:=qqh (RU h1 k);obtain⟨-,-,-,-,e4,-,-,-,-⟩:=h1.cells;have H1:=qqh hd1;clear h1 hd1 HJ d3 d4;go_wp2_with fail
 refine HP.o.mono ?_;rintro e w2 ⟨rfl,own2,h2,hd2⟩;have hg:=H.o.2;obtain⟨s,hs⟩:=qqe ((getV a.ps k).1);obtain⟨db,hdb⟩:=qqe ((getV a.ps k).2);rw[hg];have hua:Upd (fun _=>False) w2 (w2.alloc (.cells #[.int .i64 s,.bool db] 95)):=(uur _ _).alloc _;have h2a:=h2.new hua;have c0:(w2.alloc (.cells #[.int .i64 s,.bool db] 95)).cell? ⟨w2.heap.size,0,none⟩=some (.int .i64 s):=za (zc w2 _ rfl) 0;have hm2:own2 w2.heap.size=0:=h2.far _ (qXv _);have hdall:=(H1.o.trans hd2).trans (h2.didNew hua);rw[<-hs,<-hdb];obtain⟨w3,own3,hrun,h3,hd3⟩:=JN h2a (x:=k) (by omega) (by omega) 0;obtain⟨-,-,-,-,-,-,-,-,f8⟩:=h2a.cells;obtain⟨-,-,-,-,-,g5,-,-,-⟩:=h3.cells;have c3:=hd3.upd.cellv c0 (fun h=>h.1 hm2);obtain⟨m,hm⟩:=qqe (w2.heap.size);have HO:Hid (own3 m=0):=(hd3.old m (by rw[hm];simp)).trans (by rw[hm];exact hm2);have HD:=Y3 h3 (hdall.trans hd3) hs;have HM:=qqh hm;rw[<-hm]at c3;clear hua h2a c0 hm2 hdall h3 hd3 h2 hd2 HP hg hs hdb hm;go_upto_region 8 with fail
 rw[<-HM.o];refine qZj (S:=fun W=>W.cell? ⟨c,19,none⟩=some (ptr p.ss)/\W.cell? ⟨m,0,none⟩=some (.int .i64 s)) (by kernel_rfl) (by(simp only[qYo]);exact⟨g5,c3⟩) (fun hHeld=>?_);refine Wl.i [0,1,2,3,4,5] ?_;iterate 6 refine Wl.t hHeld ?_
 refine Wl.o ?_;refine Wl.r 6 (fun K hK=>?_);go_simp
 have HT:=qqh (xH (HD.o.1.new ((uur (fun _=>False) w3).drew)) s 3);refine HT.o.mono ?_;rintro e w4 ⟨rfl,own4,h4,hd4⟩;obtain⟨-,-,-,-,-,i5,-,-,-⟩:=h4.cells;have c4:=hd4.upd.cellv (show w3.drew.cell? ⟨m,0,none⟩=some (.int .i64 s) by rw[qYo];exact c3) (fun h=>h.1 HO.o);have H4:=Y2 h4 hd4;clear h4 hd4;refine hK.o _ _ (⟨i5,c4⟩) (fun hH1=>?_);clear hK K;refine Wl.r 7 (fun K hK=>?_);go_simp
 refine hK.o _ _ (hH1) (fun hH2=>?_);clear hK K;refine Wl.d ?_;go_wp2
 go_ret
 have hs:=HD.o.2.2;subst hs;exact⟨rfl,own4,H4.o.1,(HD.o.2.1.drew).trans H4.o.2⟩
abbrev CaS.dropped(n:CaN)(a:CaS)(k:Int):CaS:={a.left n k with K:=a.K.erase k,A:=dropA a.K a.A k}
theorem Ya{own:Nat->Nat}{w:World}{c:Nat}{n:CaN}{p:CaP}{a:CaS}(h:CaAt own w c n p a)(k:Int)(hg:getC a.ps k≠0):
  Calls Tryz.prog 230 #[ptr c,.int .i64 k] w (zu own w c n p a (.int .i64 0)):=by
 have HG:=qqh (qe h k);obtain⟨-,-,-,-,d4,-,-,-,-⟩:=h.cells;clear h;have q0:(getC a.ps k==0)=false:=by simpa using hg
 go_enter Tryz.func230,Tryz.ntmps230
 go_wp2_with fail
 refine HG.o.mono ?_;rintro e w1 ⟨rfl,own1,h1,hd1⟩;have H1:=Y2 h1 hd1;clear h1 hd1 HG d4;generalize getV a.ps k=pv at*;generalize getC a.ps k=cd at*;obtain⟨s,b⟩:=pv;go_wp2
 go_ret
 have hu:=(uur (fun _=>False) w1).alloc (.cells #[.int .i64 s,.bool b] 95);exact⟨rfl,own1,H1.o.1.new hu,H1.o.2.trans (H1.o.1.didNew hu)⟩
theorem sZ{own:Nat->Nat}{w:World}{c:Nat}{n:CaN}{p:CaP}{a:CaS}(h:CaAt own w c n p a)(k:Int)(hg:getC a.ps k=0)(hroom:a.next<=a.cov+n.jo)(hmx:a.next<=1099511627776)(hmay:mayR (jaddX a.next n.jo 1 k 0 false 0)=true)
  (ht:turnCode a.st (getV a.ps k).1 3=0):
  Calls Tryz.prog 230 #[ptr c,.int .i64 k] w (zu own w c n p (a.dropped n k) (.int .i64 (touchC a.K k))):=by
 have HG:=qqh (qe h k);obtain⟨-,-,-,-,d4,-,-,-,-⟩:=h.cells;have HR:=Y5 hg hroom hmx hmay ht;rw[hg]at HG;clear h hg hroom hmx hmay ht;go_enter Tryz.func230,Tryz.ntmps230
 go_wp2_with fail
 refine HG.o.mono ?_;rintro e w1 ⟨rfl,own1,h1,hd1⟩;obtain⟨s,hs⟩:=qqe ((getV a.ps k).1);obtain⟨b,hb⟩:=qqe ((getV a.ps k).2);have hu:=(uur (fun _=>False) w1).alloc (.cells #[.int .i64 s,.bool b] 95);obtain⟨w2,hw2⟩:=qqe (w1.alloc (.cells #[.int .i64 s,.bool b] 95));rw[<-hw2]at hu;have h2:=h1.new hu;have HD:=qqh (hd1.trans (h1.didNew hu));have HL:=qqh (ZZ h2 k HR.o.1 HR.o.2.1 HR.o.2.2.1 HR.o.2.2.2.1);have HW:=qqh hw2;rw[<-hs,<-hb];clear h1 hd1 HG d4 hu h2 hs hb hw2;go_wp2_with fail
 rw[<-HW.o];refine HL.o.mono ?_;rw[HR.o.2.2.2.2];rintro e w3 ⟨rfl,own3,h3,hd3⟩;obtain⟨-,-,-,-,-,-,-,d7,-⟩:=h3.cells;have HK:=qqh (Tr h3 k);have H3:=qqh (HD.o.trans hd3);clear h3 hd3 HL;go_wp2_with fail
 refine HK.o.mono ?_;rintro e w4 ⟨rfl,own4,h4,hd4⟩;have H4:=Y2 h4 hd4;clear h4 hd4 d7 HK;go_wp2
 go_ret
 exact⟨rfl,own4,H4.o.1,H3.o.trans H4.o.2⟩
def free(l:List Int):Nat:=l.findIdx (·==0)
theorem RX(l:List Int):free l<=l.length:=List.findIdx_le_length
theorem Ty{l:List Int}{k:Nat}(h:k<=free l)(hk:k<l.length)(h0:l[k]=0):free l=k:=by
 rcases Nat.lt_or_ge k (free l)with hlt|hge
 .have:=List.not_of_lt_findIdx hlt;simp[h0]at this
 .omega
theorem VJ{l:List Int}{k:Nat}(h:k<=free l)(hk:k<l.length)(h0:l[k]≠0):k+1<=free l:=by
 rcases Nat.lt_or_ge k (free l)with hlt|hge
 .exact hlt
 .exfalso;have he:free l=k:=by omega
  have hl:l.findIdx (·==0)<l.length:=by show free l<_;omega
  have h1:=List.findIdx_getElem (w:=hl);have h2:l[k]==0:=by
   have:l.findIdx (·==0)=k:=he;simp only[this]at h1;exact h1
  exact h0 (by simpa using h2)
def allocVal(l:List Int):Int:=if free l<l.length then free l else 0
def allocCode(l:List Int):Int:=if free l<l.length then 0 else 17
def allocList(l:List Int):List Int:=l.set (free l) 1
theorem VK(n:Nat):madeCells #[Value.int .i64 0] (n*1)=(ints (List.replicate n 0)).toArray:=by
 apply Array.ext
 .simp [size_madeCells]
 .intro i h1 h2;have:i%1=0:=Nat.mod_one i;simp[madeCells,ints,this]
theorem Jm:(Tryz.prog.info? 3).map (fun i=>(i.zero,i.size,i.bytes))=some (some (.int .i64 0),1,8):=by kernel_rfl
abbrev TS:TypeId:=327
theorem RY(n:Nat)(w:World)(h1:1<=n)(h2:n<=1024):
  Calls Tryz.prog 133 #[.int .i64 n] w fun e w'=>e=.returned (.tuple #[vL (w.heap.size+1),.int .i64 0])/\
   SlotsAt TS w' (w.heap.size+1) (.slice (some ⟨w.heap.size,0,none⟩) n n) (List.replicate n 0)/\Below w.heap.size w w'/\w'.heap.size=w.heap.size+2:=by
 obtain⟨i0,hi,hz0,hz1,hz2⟩:=qZa Jm;have hmk:∀w:World,(Instr.makeSlice 87 (.int .i64 n) (.int .i64 n)).run Tryz.prog w=.ok (.slice (some ⟨w.heap.size,0,none⟩) n n) (w.alloc (.cells (ints (List.replicate n 0)).toArray 3)):=by
  intro w;have:=run_make (P:=Tryz.prog) w 87 3 i0 (.int .i64 0) Tryz.underlying87 hi hz0 .i64 .i64 n n (by omega) (by omega) (by rw[hz2];omega) (by omega);rw[this];simp only[qxu,hz1,Value.cells];rw[VK]
 have h1':¬(n:Int)<1:=by omega
 have h2':¬1024<(n:Int):=by omega
 clear hi hz0 hz1 hz2;go_enter Tryz.func133,Tryz.ntmps133
 go_wp2
 go_ret2
 have ha:(w.alloc (.cells (ints (List.replicate n 0)).toArray 3)).heap[w.heap.size]?=some (.cells (ints (List.replicate n 0)).toArray 3):=zc w _ rfl;refine⟨rfl,⟨zc _ _ (by simp),?_,by simp[Value.ownBlock],by simpa using h2⟩,((qxl _ _).alloc (qXv _) _).alloc (by simp) _,by simp⟩;refine⟨by simp,.inr ⟨w.heap.size,0,n,(ints (List.replicate n 0)).toArray,by simp,?_,by simp,by unfold maxLen;omega,by simp,?_⟩⟩
 .rw [qxk _ _ _ (by simp)];exact ha
 .intro j u hj;simpa using hj
section
variable{w:World}{b:Nat}{v:Value}{l:List Int}
theorem VL(h:SlotsAt TS w b v l):
  Calls Tryz.prog 324 #[vL b] w fun e w'=>e=.returned (.tuple #[.int .i64 (allocVal l),.int .i64 (allocCode l)])/\
   SlotsAt TS w' b v (allocList l)/\Upd (ownS v) w w':=by
 have hc0:=za h.str 0;simp at hc0;have hle:=h.le;have H:=qqh h;obtain⟨ao,c,rfl⟩:=h.sl.rd.nil_iff;clear h;go_enter Tryz.func324,Tryz.ntmps324
 go_wp2
 go_step3
 go_wp2
 go_step3
 go_wp2
 go_loopg[4,5,15] (l.length+1) (fun g fv ev i wr=>∃k:Nat,k+g=l.length+1/\k<=l.length/\fv=.int .i64 0/\ev=.int .i64 17/\i=.int .i64 k/\k<=free l/\wr=w)
 case atStart=>exact⟨0,by omega,by omega,rfl,rfl,rfl,qYf _,rfl⟩
 case round=>
  obtain⟨k,hk,hkl,rfl,rfl,rfl,hf,rfl⟩:=hrel;by_cases hlt:k<l.length
  .obtain ⟨g,off,cap,hv,hcell,hfz⟩:=H.o.at hlt;cases hv;by_cases h0:l[k]=0
   .have hfr:=Ty hf hlt h0;have hb0:(l[k]==0)=true:=by simpa using h0
    have hr1:allocVal l=k:=by simp[allocVal,hfr,hlt]
    have hr2:allocCode l=0:=by simp[allocCode,hfr,hlt]
    have hr3:allocList l=l.set k 1:=by simp[allocList,hfr]
    have HF:=qqh (H.o.set k hlt 1);have HR:Hid (allocVal l=k/\allocCode l=0/\allocList l=l.set k 1):=⟨hr1,hr2,hr3⟩
    clear hf hfr h0 hr1 hr2 hr3;go_wp2
    rw[qxr];go_ret2
    exact⟨by rw[HR.o.1,HR.o.2.1];rfl,by rw[HR.o.2.2];exact HF.o.1,HF.o.2⟩
   .have hb0:(l[k]==0)=false:=by simpa using h0
    have hfs:=VJ hf hlt h0;clear hf h0;go_wp2
    go_roundg (gk-1)
    case measure=>omega
    case rel=>exact⟨k+1,by omega,by omega,rfl,rfl,by go_num,hfs,rfl⟩
  .obtain rfl:k=l.length:=by omega
   have hfr:free l=l.length:=Nat.le_antisymm (RX l) hf;have hr1:allocVal l=0:=by simp[allocVal,hfr]
   have hr2:allocCode l=17:=by simp[allocCode,hfr]
   have hr3:allocList l=l:=by simp only[allocList,hfr];exact List.set_eq_of_length_le (qXv _)
   have HR:Hid (allocVal l=0/\allocCode l=17/\allocList l=l):=⟨hr1,hr2,hr3⟩
   clear hf hfr hr1 hr2 hr3;go_wp2
   rw[qxr];go_ret2
   exact⟨by rw[HR.o.1,HR.o.2.1];rfl,by rw[HR.o.2.2];exact H.o,uur _ _⟩
theorem VM{w:World}{v:Value}{l:List Int}(h:Rd w 1 v l.length (ints l))(hle:l.length<=4096):
  Calls Tryz.prog 113 #[v] w fun e w'=>∃v',e=.returned v'/\Sl w' 3 1 v' l.length (ints l)/\From w.heap.size v'/\Below w.heap.size w w':=by
 obtain⟨i0,hi,hz0,hz1,hz2⟩:=qZa Jm;have H:=qqh h;obtain⟨hl,hm,ao,c,rfl,h0,_⟩:=h;have q34:=fun(w:World) (a:Option Addr) (n c:Nat)=>Lib.run_eql_slice_nil (P:=Tryz.prog) w 87 3 a n c 0 0 Tryz.underlying87;cases ao with
 |none=>
  have hn:=h0 rfl;obtain rfl:l=[]:=qyd hn;clear h0 hl;go_enter Tryz.func113,Tryz.ntmps113
  go_wp2
  go_ret
  exact⟨_,rfl,by simpa using Sl.nil _ _ _,From.nil _ _ _,qxl _ _⟩
 |some a=>
  clear h0 hl;have hs0:Sl (w.alloc (.cells #[] 3)) 3 1 (.slice (some ⟨w.heap.size,0,none⟩) 0 0) 0 []:=
   ⟨by simp,.inr ⟨w.heap.size,0,0,#[],rfl,zc _ _ rfl,by simp,by simp[maxLen],by simp,by simp⟩⟩
  have HR:Hid (Rd (w.alloc (.cells #[] 3)) 1 (.slice (some a) l.length c) l.length (ints l)):=H.o.keep ((uur (fun _=>False) _).alloc _) (fun _ _ h=>h);go_enter Tryz.func113,Tryz.ntmps113
  go_wp2_with (at_builtin;refine zK rfl _ _ 87 rfl i0 (.int .i64 0) 8 Tryz.underlying87 hi hz0 hz1 hz2 rfl (by decide) rfl hs0 _ l.length (ints l) rfl HR.o (by simp[ints,Value.oneCell']) (by unfold maxLen;omega) (by omega) ?_)
  intro v' w2 hs2 hu2 hb2;go_wp2
  go_ret
  refine⟨_,rfl,by simpa using hs2,?_,?_⟩
  .exact hb2.ge (by simp) (by intro g hg;simp[Value.ownBlock]at hg;omega)
  .refine zj ((qxl _ _).alloc (qXv _) _) hu2 (qXv _) (by intro k hk;simp[ownS,Value.ownBlock]at hk;omega)
end
end Go.Proofs.YtfhfbpmlnjdfoaaGreatDoor
