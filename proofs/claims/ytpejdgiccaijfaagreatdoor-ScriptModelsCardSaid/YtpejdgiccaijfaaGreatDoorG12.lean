/- The clock's Ev -/
import Derived.Test.YtpejdgiccaijfaaGreatDoorG07
import Derived.BigRegionIn
import Derived.Shelf.RegionOpen
import Derived.Test.YtpejdgiccaijfaaGreatDoorG06
set_option maxRecDepth 100000
set_option maxHeartbeats 16000000
namespace Go.Proofs.YtpejdgiccaijfaaGreatDoor.EvG
open Go Go.RowKit Go.Proofs.YtpejdgiccaijfaaGreatDoor Tryz
abbrev mayV(xv:Value):Value:=.func (.func 425) #[xv] #[]
def MayIs(xv:Value)(fm:Int->Bool)(w0:World):Prop:=∀(W:World) (k:Int),InR k->Upd (fun _=>False) w0 W->Calls prog 425 #[xv,.int .i64 k] W fun e w'=>e=.returned (.bool (fm k))/\Below W.heap.size W w'
theorem QT{xv:Value}{fm:Int->Bool}{w0:World}(hmay:MayIs xv fm w0)(k:Int)(hk:InR k)(w:World)(hw:Upd (fun _=>False) w0 w)(g:Nat)(hg:w.cell? ⟨g,0,none⟩=some (mayV xv)):
  Calls prog 444 #[.int .i64 k,.pointer (some ⟨g,0,none⟩)] w fun e w'=>e=.returned (.bool (fm k))/\Below w.heap.size w w':=by
 have hmf:=qqf;have hlt:=(zJ hg).2;have hg1:=(((uur (fun _=>False) w).alloc (.cells #[.bool false] 4)).cellAt hlt id).trans hg;clear hg
 go_enter_defers func444,ntmps444
 go_wp2_with fail
 refine(hmay _ k hk (hw.alloc _)).mono ?_;rintro e w1 ⟨rfl,hb1⟩;have hs1:=hb1.size;simp at hs1;have blk:=(hb1.block w.heap.size oe).trans (zc w (.cells #[.bool false] 4) rfl);have C2:=qqh (za (zh blk 0 (.bool (fm k))) 0);have c1:=(hb1.cell (p:=⟨w.heap.size,0,none⟩) oe).trans (za (zc w (.cells #[.bool false] 4) rfl) 0);have f1:=(hb1.frozen (p:=⟨w.heap.size,0,none⟩) oe).trans (zf (zc w (.cells #[.bool false] 4) rfl) 0);simp at c1;have HB:Hid (Below w.heap.size w w1):=zj ((qxl _ _).alloc (qXo _) _) (uuo (S:=fun _=>False) hb1) (qXo _) (fun _ h=>h.elim);clear hb1 blk;go_wp2
 refine leaves_cons (f:=445) (args:= #[.pointer (some ⟨w.heap.size,0,none⟩)]) oe jM ?_;refine(XW _ _).mono ?_;rintro e u' w'' ⟨rfl,rfl,rfl⟩;simp[Leaves,settle,results,results444,go_sem];have c2:=C2.out;simp at c2;rw[c2];exact⟨_,rfl,rfl,HB.o.setCell (p:=⟨w.heap.size,0,none⟩) (qXo _) _⟩
def trimG(few:Nat)(L:List Int):List Int:=if few<L.length then L.tail else L
def restK(K:List Int)(i:Nat):List Int:=K.drop (i+1)++K.take i
structure EvYes(fm:Int->Bool)(few:Nat)(K:List Int)(A:Int->Bool)(G:List Int)(key:Int)(K':List Int)(A':Int->Bool)(G':List Int):Prop where
 ex:∃i,∃h:i<K.length,key=K[i]/\K'=restK K i/\((∀x,K.head?=some x->fm x=true/\A x=false)->i=0/\A'=A)/\((i=0/\A'=A)\/1<=i\/∀x∈K,fm x=false\/A x=true)/\∀j (hj:j<K.length),j<i->fm K[j]=true->A' K[j]=false
 gh:G'=trimG few (G++[key])
 out:A' key=false
 sub:∀x,A' x=true->A x=true
def evGo(fm:Int->Bool)(K:List Int):Nat->Nat->(Int->Bool)->Option (Nat×(Int->Bool))
 |0,_,_=>none
 |g+1,h,A=>if fm (K.getD (h%K.length) 0)=false then evGo fm K g (h+1) A else if A (K.getD (h%K.length) 0)=true then evGo fm K g (h+1) (updB A (K.getD (h%K.length) 0) false)else some (h%K.length,A)
def evR(fm:Int->Bool)(few:Nat)(K:List Int)(A:Int->Bool)(G:List Int):Int×Int×List Int×(Int->Bool)×List Int:=
 match evGo fm K (2*K.length) 0 A with
 |none=>(0,14,K,A,G)
 |some (p,A')=>(K.getD p 0,0,restK K p,A',trimG few (G++[K.getD p 0]))
section
variable{fm:Int->Bool}{K:List Int}{A:Int->Bool}{g h p:Nat}{k:Int}{hp:p<K.length}
theorem Tg(hg:1<=g)(hk:k=K[p])(he:p=h%K.length)(hf:fm k=false):evGo fm K g h A=evGo fm K (g-1) (h+1) A:=by
 obtain⟨g,rfl⟩:∃g',g=g'+1:=⟨g-1,oM⟩
 have e:K.getD (h%K.length) 0=k:=by rw[<-he,hk];simp[hp]
 simp only[evGo,e,hf,if_true,Nat.add_sub_cancel]
theorem QU(hg:1<=g)(hk:k=K[p])(he:p=h%K.length)(hf:fm k=true)(ha:A k=true):evGo fm K g h A=evGo fm K (g-1) (h+1) (updB A k false):=by
 obtain⟨g,rfl⟩:∃g',g=g'+1:=⟨g-1,oM⟩
 have e:K.getD (h%K.length) 0=k:=by rw[<-he,hk];simp[hp]
 simp only[evGo,e,hf,ha,if_true,Nat.add_sub_cancel];simp
theorem QV(hg:1<=g)(hk:k=K[p])(he:p=h%K.length)(hf:fm k=true)(ha:A k=false):evGo fm K g h A=some (p,A):=by
 obtain⟨g,rfl⟩:∃g',g=g'+1:=⟨g-1,oM⟩
 have e:K.getD (h%K.length) 0=k:=by rw[<-he,hk];simp[hp]
 simp only[evGo,e,hf,ha];simp[he]
end
def EvOut(fm:Int->Bool)(few:Nat)(K:List Int)(A:Int->Bool)(G:List Int)(key code:Int)(K':List Int)(A':Int->Bool)(G':List Int):Prop:=
 ((code=14/\key=0/\K'=K/\A'=A/\G'=G/\∀x∈K,fm x=false\/A x=true)\/(code=0/\EvYes fm few K A G key K' A' G'))/\evR fm few K A G=(key,code,K',A',G')
theorem restK_perm{K:List Int}{i:Nat}(h:i<K.length):(K[i]::restK K i).Perm K:=by
 unfold restK;have e:K=K.take i++K[i]::K.drop (i+1):=oe;have h1:(K[i]::(K.drop (i+1)++K.take i)).Perm (K.take i++K[i]::K.drop (i+1)):=by
  exact List.perm_append_comm (l₁:=K[i]::K.drop (i+1)) (l₂:=K.take i)
 rw[<-e]at h1;exact h1
theorem Th{K:List Int}{i:Nat}(h:i<K.length):(restK K i).length+1=K.length:=by
 have:=(restK_perm h).length_eq;simpa using this
theorem Ti(few:Nat)(L:List Int)(h:L.length<=few+1):(trimG few L).length<=few:=by
 unfold trimG;split
 .rw [List.length_tail];omega
 .omega
theorem trimG_mem{few:Nat}{L:List Int}{x:Int}(h:x∈trimG few L):x∈L:=by
 unfold trimG at h;split at h
 .exact List.mem_of_mem_tail h
 .exact h
theorem Xa{few:Nat}{L:List Int}(h:L.Nodup):(trimG few L).Nodup:=by
 unfold trimG;split
 .exact h.sublist (List.tail_sublist L)
 .exact h
theorem CkGood.evict{most few:Nat}{K G K' G':List Int}{A A':Int->Bool}{fm:Int->Bool}{key:Int}(h:CkGood most few K A G)(hy:EvYes fm few K A G key K' A' G'):CkGood most few K' A' G':=by
 obtain⟨i,hi,rfl,rfl,_,_,_⟩:=hy.ex;have hp:=restK_perm hi;have hnd:(K[i]::restK K i).Nodup:=hp.nodup_iff.2 h.kd;have hmem:∀x,x∈restK K i->x∈K:=fun x hx=>hp.mem_iff.1 (qzn _ hx);have hlen:=Th hi;have hgh:=hy.gh;subst hgh;exact{
  kr:=fun x hx=>h.kr x (hmem x hx)
  gr:=fun x hx=>by
   rcases qzl.1 (trimG_mem hx)with h1|h1
   .exact h.gr x h1
   .simp at h1;exact h1▸h.kr _ (qyu hi)
  kd:=(qzw.1 hnd).2
  gd:=Xa (by
   rw[qzv];refine⟨h.gd,oe,fun x hx y hy e=>?_⟩;simp at hy;subst hy;subst e;exact h.dis _ (qyu hi) hx)
  dis:=fun x hx hg=>by
   rcases qzl.1 (trimG_mem hg)with h1|h1
   .exact h.dis x (hmem x hx) h1
   .simp at h1;subst h1;exact(qzw.1 hnd).1 hx
  ask:=fun x hx=>by
   have h1:=h.ask x (hy.sub x hx);rcases qzm.1 (hp.mem_iff.2 h1)with h2|h2
   .subst h2;rw[hy.out]at hx;cases hx
   .exact h2
  kl:=by have:=h.kl;omega
  gl:=Ti _ _ (by have:=h.gl;simp;omega)
  ml:=h.ml
  fl:=h.fl
  m1:=h.m1}
theorem EvOut.good{most few:Nat}{K G K' G':List Int}{A A':Int->Bool}{fm:Int->Bool}{key code:Int}(h:CkGood most few K A G)(ho:EvOut fm few K A G key code K' A' G'):CkGood most few K' A' G':=by
 rcases ho with⟨⟨_,_,rfl,rfl,rfl,_⟩|⟨_,hy⟩,-⟩
 .exact h
 .exact CkGood.evict h hy
theorem Tj{w:World}{v:Value}{l:List Int}(h:Sl w 3 1 v l.length (ints l))(hle:l.length<=4096)(hi:0<l.length):
  Calls prog 288 #[v,.int .i64 0,.int .i64 1] w fun e w'=>∃ao n c,e=.returned (.slice ao n c)/\(Value.slice ao n c).ownBlock=v.ownBlock/\Sl w' 3 1 (.slice ao n c) l.tail.length (ints l.tail)/\Upd (ownS v) w w':=by
 have:=Zp h hle hi;rw[List.eraseIdx_zero]at this;refine this.mono ?_;rintro e w' ⟨v',rfl,h1,h2,h3⟩;obtain⟨ao,c,rfl⟩:=h2.rd.jU;exact⟨ao,_,c,rfl,h1,h2,h3⟩
theorem VD{w:World}{g o c n:Nat}{cur:Array Value}{e:TypeId}{l:List Int}(hg:w.heap[g]?=some (.cells cur e (0,0)))(hc:∀j u,(ints l)[j]?=some u->cur[o+j]?=some u)(hn:l.length<=maxLen)(A:Addr)(i:Nat)(hA:(if c=i then some (⟨g,o,none⟩:Addr)else some ⟨g,o+i,none⟩)=some A)(hnl:n=l.length-i)(hcl:c=i->l.length<=i)(cc:Nat):
  Rd w 1 (.slice (some A) n cc) (l.drop i).length (ints (l.drop i)):=by
 subst hnl;refine⟨oe,by rw[qza];omega,some A,cc,by rw[qza],(fun h=>by cases h),fun b hb j u hj=>?_⟩;cases hb;have hj':(ints l)[i+j]?=some u:=by simpa[ints,List.getElem?_drop]using hj
 by_cases h:c=i
 .have:=(qyl.1 hj').1;rw[xe]at this;have:=hcl h;omega
 .rw [if_neg h]at hA;cases hA;rw[qxa,za hg,qXl];exact hc _ _ hj'
theorem JS{w:World}{g o:Nat}{cur:Array Value}{e:TypeId}{l:List Int}(hg:w.heap[g]?=some (.cells cur e (0,0)))(hc:∀j u,(ints l)[j]?=some u->cur[o+j]?=some u)(hn:l.length<=maxLen)(i:Nat)(hi:i<=l.length)(cc:Nat):
  Rd w 1 (.slice (some ⟨g,o,none⟩) i cc) (l.take i).length (ints (l.take i)):=by
 have hlt:(l.take i).length=i:=by rw[qzf];omega
 refine⟨oe,by rw[hlt];omega,some ⟨g,o,none⟩,cc,by rw[hlt],(fun h=>by cases h),fun b hb j u hj=>?_⟩;cases hb;have hj1:=(qyl.1 hj).1;rw[xe,hlt]at hj1;have hj':(ints l)[j]?=some u:=by
  rw[<-hj];simp[ints,hj1]
 rw[qxa,za hg];exact hc _ _ hj'
theorem QW{w:World}{b mb N most few:Nat}{vk vg:Value}{K G:List Int}{A:Int->Bool}(h:CkAt w b mb N vk vg most few K A G)(xv:Value)(fm:Int->Bool)(hmay:MayIs xv fm w):
  Calls prog 424 #[.pointer (some ⟨b,0,none⟩),mayV xv] w fun e w'=>∃key code K' A' G' mb' vk' vg',e=.returned (.tuple #[.int .i64 key,.int .i64 code])/\
   EvOut fm few K A G key code K' A' G'/\CkMem w' b mb' N vk' vg' most few K' A' G'/\(∀j,Qw b mb' vk' vg' j->Qw b mb vk vg j\/w.heap.size<=j)/\Upd (fun j=>j=b) w w':=by
 obtain⟨i0,hi0,hz0,hz1',hz2⟩:=qYs vq;have hq:∀w,(binOp .eql 66 (mayV xv) .nilFunc).run prog w=.ok (.bool false) w:=fun _=>kR;have hmf:=qqf;have H:=qqh h;have hblt:=h.blt;have hu1:Upd (fun _=>False) w (w.alloc (.cells #[mayV xv] 66)).drew:=((uur _ _).alloc _).drew;have H1:=h.keep hu1 (fun _ _ h=>h);have hkl:=h.kle;have hgl:=h.gle;have C1:Hid (((w.alloc (.cells #[mayV xv] 66)).drew.cell? ⟨b,2,none⟩=some vk)/\((w.alloc (.cells #[mayV xv] 66)).drew.cell? ⟨b,3,none⟩=some (.map (some mb)))/\
   ((w.alloc (.cells #[mayV xv] 66)).drew.cell? ⟨b,4,none⟩=some vg)):=⟨H1.c.2.2.1,H1.c.2.2.2.1,H1.c.2.2.2.2⟩
 have M1:Hid ((w.alloc (.cells #[mayV xv] 66)).drew.cell? ⟨w.heap.size,0,none⟩=some (mayV xv)):=za (zc w _ rfl) 0;have H1:=qqh H1;have HU1:=qqh hu1;have g2:=C1.out.1;have g3:=C1.out.2.1;have g4:=C1.out.2.2;clear h hu1;go_enter func424,ntmps424
 go_wp2
 refine wp_scope_straight ?_;go_wp2
 go_region_held3 (fun W=>W.cell? ⟨b,2,none⟩=some vk/\W.cell? ⟨b,3,none⟩=some (.map (some mb))/\W.cell? ⟨b,4,none⟩=some vg) (go_keep)
  (first
  |((go_at_call 302;refine(yA H1.o.ks.rd oM).mono ?_;rintro e w3 ⟨v3,rfl,hs3,hf3,hb3⟩;have H3:=H1.o.below hb3;have k2:=H3.c.2.2.1;have k3:=H3.c.2.2.2.1;have k4:=H3.c.2.2.2.2;have H3:=qqh H3))
  |((go_at_call 446;refine(yR H3.o.set).mono ?_;rintro e w4 ⟨rfl,hset4,hb4⟩;have H4:=H3.o.below hb4;have l2:=H4.c.2.2.1;have l3:=H4.c.2.2.2.1;have l4:=H4.c.2.2.2.2;have H4:=qqh H4))
  |((go_at_call 302;refine(yA H4.o.gs.rd oM).mono ?_;rintro e w5 ⟨v5,rfl,hs5,hf5,hb5⟩;have H5:=H4.o.below hb5;have m2:=H5.c.2.2.1;have m3:=H5.c.2.2.2.1;have m4:=H5.c.2.2.2.2;have H5:=qqh H5)))
 have hz1:(w.alloc (.cells #[mayV xv] 66)).drew.heap.size=w.heap.size+1:=oe;have hb35:Below w3.heap.size w3 w5:=hb4.trans (hb5.mono hb4.size);have hU5:Hid (Upd (fun _=>False) w w5):=HU1.o.trans (uuo (hb3.trans (hb35.mono hb3.size)));have HK5:=qqh (hs3.keep (uuo (S:=fun _=>False) hb35) (fun _ _ h=>h));have HA5:=qqh (hset4.keep (uuo (S:=fun _=>False) hb5) id);have HG5:=qqh hs5;have M5:=qqh ((hb35.cell (p:=⟨w.heap.size,0,none⟩) (by have:=hb3.size;simp at this⊢;omega)).trans ((hb3.cell (p:=⟨w.heap.size,0,none⟩) oe).trans M1.out));have HO:Hid ((∀g,v3.ownBlock=some g->w.heap.size<g/\g<w3.heap.size)/\w.heap.size<w3.heap.size/\(∀g,v5.ownBlock=some g->w3.heap.size<g)):=by
  have:=hb3.size;have:=hset4.lt;refine⟨fun g hg=>⟨?_,hs3.lt hg⟩,oM,fun g hg=>?_⟩
  .have:=hf3 g hg;omega
  .have:=hf5 g hg;omega
 obtain⟨aok,ck,rfl⟩:=hs3.rd.jU;obtain⟨aog,cg,rfl⟩:=hs5.rd.jU;generalize hmb:w3.heap.size=mb2 at*;clear hb3 hb4 hb5 hb35 hs3 hs5 hf3 hf5 hset4 m2 m3 m4 l2 l3 l4 k2 k3 k4 g2 g3 g4 H3 H4 H1 C1 M1 HU1 hmb hz1;go_wp2
 refine wp_label ?_;go_wp2
 go_loopg[12] (2*K.length) (fun g i wr=>∃h:Nat,h+g=2*K.length/\i=.int .i64 h/\∃A2,SetAt wr mb2 N A2/\(∀x,A2 x=true->A x=true)/\((h=0->A2=A)/\evGo fm K g h A2=evGo fm K (2*K.length) 0 A)/\(∀j (hj:j<K.length),j<h->(fm K[j]=false\/A K[j]=true)/\(fm K[j]=true->A2 K[j]=false))/\Upd (fun j=>j=mb2) w5 wr)
 case atStart=>exact⟨0,oM,rfl,A,HA5.o,fun _ h=>h,⟨fun _=>rfl,rfl⟩,fun j hj h=>oM,uur _ _⟩
 case round=>
  obtain⟨h,hh,rfl,A2,hs2,hsub,hz0,hz1,hur⟩:=hrel;have R0:=Y5 hs2 hsub hz0 hz1 hur;clear hs2 hsub hz0 hz1 hur;by_cases hlt:h<2*K.length
  .have hpl:h%K.length<K.length:=qXt _ oM;obtain⟨p,hp⟩:=qqe (h%K.length);rw[<-hp]at hpl;have hmod:(h:Int)%(K.length:Int)=(p:Int):=by rw[hp];exact(Int.natCast_emod h K.length).symm
   have HP:=qqh hp;clear hp;have hK:=HK5.o.keep R0.out.2.2.2.2 (fun g hg e=>by have:=HO.o.1 g hg;omega);have HKr:=qqh hK;obtain⟨gk3,ok3,ck3,hv3,hg3,hc3⟩:=hK.rd.at oM;cases hv3;have hcp:=hc3 p _ (yk hpl);have hMr:=(R0.out.2.2.2.2.cell (p:=⟨w.heap.size,0,none⟩) (zJ M5.out).2 (by have:=HO.o.2.1;simp;omega)).trans M5.out;have hkr:InR K[p]:=H5.o.good.kr _ (qyu hpl);obtain⟨k,hk⟩:=qqe (K[p]);rw[<-hk]at hcp hkr;have HKK:=qqh hk;clear hk hK hc3;have q0:¬(K.length:Int)=0:=oM;go_wp2_with fail
   refine(QT hmay k hkr _ (hU5.out.new R0.out.2.2.2.2 (fun i hi e=>by have:=HO.o.2.1;omega)) w.heap.size hMr).mono ?_;rintro e w6 ⟨rfl,hb6⟩;have hA6:=qqh (R0.out.1.keep (uuo (S:=fun _=>False) hb6) id);have HU6:=qqh (R0.out.2.2.2.2.trans (uuo hb6));clear hb6 hcp hMr hg3;rcases hmb:fm k with _|_
   .have HM:=qqh hmb;clear hmb;go_wp2
    go_roundg (gk-1)
    case measure=>omega
    case rel=>
     refine⟨h+1,oM,by go_num,A2,hA6.out,R0.out.2.1,⟨oM,(Tg oM HKK.o HP.o HM.o).symm.trans R0.out.2.2.1.2⟩,fun j hj hjh=>?_,HU6.o⟩;by_cases h0:j<h
     .exact R0.out.2.2.2.1 j hj h0
     .have hp0:p=j:=by rw[HP.o,show h=j by omega];exact qXs hj
      subst hp0;rw[<-HKK.o];exact⟨.inl HM.o,fun e=>by rw[HM.o]at e;cases e⟩
   .have HM:=qqh hmb;clear hmb;go_wp2_with fail
    refine(uh hA6.out k hkr).mono ?_;rintro e w7 ⟨rfl,hb7⟩;have hA7:=qqh (hA6.out.keep (uuo (S:=fun _=>False) hb7) id);have HU7:=qqh (HU6.o.trans (uuo hb7));clear hb7;rcases hask:A2 k with _|_
    .have HA:=qqh hask;clear hask;go_wp2
     simp only[hmod];clear hmod;have hz7:w.heap.size<w7.heap.size:=by have:=HU7.o.size;have:=hU5.out.size;have:=HO.o.2.1;have:=HA5.o.lt;omega
     have H7:=qqh (H5.o.keep HU7.o (fun j hj e=>by subst e;have:=H.o.slt _ hj;have:=HO.o.2.1;omega));have hK7:Sl w7 3 1 (.slice (some ⟨gk3,ok3,none⟩) K.length ck) K.length (ints K):=HK5.o.keep HU7.o (fun g hg e=>by have:=HO.o.1 g hg;omega);obtain⟨_,⟨h1,h2⟩|⟨g9,o9,c9,cur,h1,hg9,hn9,hm9,hz9,hc9⟩⟩:=hK7
     .cases h1
     cases h1;obtain⟨Aa,hAa,hsrc⟩:∃Aa:Addr,(if ck=p+1 then some (⟨gk3,ok3,none⟩:Addr)else some ⟨gk3,ok3+(p+1),none⟩)=some Aa/\Hid (∀W,Upd (fun _=>False) w7 W->Rd W 1 (.slice (some Aa) (K.length-(p+1)) (ck-(p+1))) (K.drop (p+1)).length (ints (K.drop (p+1)))):=by
      have hml:K.length<=maxLen:=oM;by_cases e:ck=p+1
      .rw [if_pos e];refine⟨_,rfl,fun W hW=>Rd.keep (VD hg9 hc9 hml _ (p+1) (if_pos e) rfl (fun _=>oM) _) hW (fun _ _ h=>h)⟩
      .rw [if_neg e];refine⟨_,rfl,fun W hW=>Rd.keep (VD hg9 hc9 hml _ (p+1) (if_neg e) rfl (fun h=>absurd h e) _) hW (fun _ _ h=>h)⟩
     have hRb:Hid (∀W,Upd (fun _=>False) w7 W->Rd W 1 (.slice (some ⟨gk3,ok3,none⟩) p ck) (K.take p).length (ints (K.take p))):=fun W hW=>Rd.keep (JS hg9 hc9 oM p oM _) hW (fun _ _ h=>h);have u1:Hid (Upd (fun _=>False) w7 (w7.alloc (.cells #[.slice (some Aa) (K.length-(p+1)) (ck-(p+1)),.slice (some ⟨gk3,ok3,none⟩) p ck] 87)).drew):=((uur _ _).alloc _).drew;have u2:Hid ((w7.alloc (.cells #[.slice (some Aa) (K.length-(p+1)) (ck-(p+1)),.slice (some ⟨gk3,ok3,none⟩) p ck] 87)).drew.heap[w7.heap.size]?=some (.cells #[.slice (some Aa) (K.length-(p+1)) (ck-(p+1)),.slice (some ⟨gk3,ok3,none⟩) p ck] 87 (0,0))):=zc _ _ rfl;have hlen:Hid ((K.drop (p+1)).length+(K.take p).length<=4096):=by show(K.drop (p+1)).length+(K.take p).length<=4096;rw[qza,qzf];omega
     have k1:¬p+1>ck:=oM;have hic:p<=ck:=oM;have hjc:p+1<=ck:=oM;have hj0:(0:Int)<=(p:Int)+1:=oM;have hj1:(p:Int)+1<=(K.length:Int):=oM;have hj2:0<=(p:Int)+1/\(p:Int)+1<=(K.length:Int):=⟨hj0,hj1⟩
     have hwr:IntKind.i64.wrap ((p:Int)+1)=(p:Int)+1:=qxu _ oM;have htn:((p:Int)+1).toNat=p+1:=oM;have hlk:Hid ((K.drop (p+1)).length+(K.take p).length=(restK K p).length):=by show _=_;unfold restK;rw[qyy]
     have hli:Hid (ints (K.drop (p+1))++ints (K.take p)=ints (restK K p)):=by show _=_;unfold restK;rw[Ym]
     clear hc9 hg9 hz9 hm9
     go_region_with (go_at_call 448;refine(We u2.out (hsrc.out _ u1.out) (hRb.out _ u1.out) hlen.out).mono ?_;rintro e w8 ⟨v8,rfl,hs8,hf8,hb8⟩;rw[hlk.out,hli.out]at hs8;obtain⟨ao8,c8,rfl⟩:=hs8.rd.jU;have hU8:=qqh (u1.out.trans (uuo hb8));have H8:=H7.o.keep hU8.out (fun _ _ h=>h);have s2:=H8.c.2.2.1;have f2:=H8.fz 2;have H8:=qqh H8)
     have hz8:w7.heap.size<=w8.heap.size:=hU8.out.size;have hF8:∀g,(Value.slice ao8 (restK K p).length c8).ownBlock=some g->w7.heap.size<=g/\g<w8.heap.size:=fun g hg=>⟨by have:=hf8 g hg;simp at this;omega,hs8.lt hg⟩
     have hstr8:=H8.o.str;have hG8:=HG5.o.keep (HU7.o.trans (hU8.out.mono fE)) (fun g hg e=>by have:=HO.o.2.2 g hg;omega);have hA8:=hA7.out.keep hU8.out id;obtain⟨v8,hv8⟩:=qqe (Value.slice ao8 (restK K p).length c8);have P8:=Y6 hs8 hF8 hstr8 hG8 hA8 hv8;clear hs8 hF8 hf8 hb8 hG8 hA8 hstr8 s2 f2;rw[<-hv8];clear hv8;have hbv8:v8.ownBlock≠some b:=by rw[P8.out.2.2.2.2.2];intro e;have:=(P8.out.2.1 b e).1;omega
     have hbv5:(Value.slice aog G.length cg).ownBlock≠some b:=by intro e;have:=HO.o.2.2 b e;have:=HO.o.2.1;omega
     have hbmb:mb2≠b:=by have:=HO.o.2.1;omega
     have str9:=zh P8.out.2.2.1 2 v8;have ks9:=(P8.out.2.2.2.2.2▸P8.out.1:Sl w8 3 1 v8 (restK K p).length (ints (restK K p))).ky (zi w8 b 2 v8) hbv8;have gs9:=P8.out.2.2.2.1.ky (zi w8 b 2 v8) hbv5;have as9:=P8.out.2.2.2.2.1.keep (zi w8 b 2 v8) hbmb;have U9:Upd (fun j=>j=b) w (w8.setCell ⟨b,2,none⟩ v8):=
      Upd.trans (Upd.new hU5.out (HU7.o.trans (hU8.out.mono fE)) (fun i hi e=>by have:=HO.o.2.1;omega)|>.mono fE) (zi w8 b 2 v8)
     have hz9:w8.heap.size=(w8.setCell ⟨b,2,none⟩ v8).heap.size:=oe;generalize w8.setCell ⟨b,2,none⟩ v8=w9 at*;have s3:=za str9 3;have f3:=zf str9 3;simp at s3;have Q9:=Y6 str9 ks9 gs9 as9 U9 hz9;clear str9 ks9 gs9 as9 U9 hz9;have G10:=qqh (Q9.out.2.2.1.ky (zi w9 b 3 (.map (some mb2))) hbv5);have hm1:Hid (G.length+1<=maxLen):=by show G.length+1<=maxLen;unfold maxLen;omega
     have hm2:Hid ((G.length+1)*8<=140737488355328):=by show _<=_;omega
     have hone:Hid (∀u∈[Value.int .i64 k],u.oneCell'=true):=by intro u hu;simp at hu;subst hu;rfl
     have hx10:Hid (Value.slice (some ⟨w9.heap.size,0,none⟩) 1 1=.slice (some ⟨(w9.setCell ⟨b,3,none⟩ (.map (some mb2))).heap.size,0,none⟩) 1 1):=by show _=_;simp
     go_wp2_with (at_builtin;refine zG rfl (.tmp 82) (.tmp 84) 87 rfl i0 (.int .i64 0) 8 underlying87 hi0 hz0 hz1' hz2 rfl de rfl G10.out [.int .i64 k] hx10.out rfl hone.out hm1.out hm2.out ?_)
     intro v11 w11 hs11 hu11 hbf11;obtain⟨ao11,c11,rfl⟩:=hs11.rd.jU;have hz10:w9.heap.size=(w9.setCell ⟨b,3,none⟩ (.map (some mb2))).heap.size:=oe;have hob11:∀g,(Value.slice ao11 (G.length+1) c11).ownBlock=some g->mb2<g/\(g<w7.heap.size\/w8.heap.size<=g):=by
      intro g hg;have ht:=HG5.o.lt (g:=g);have hsz:=HU7.o.size;rcases hbf11 with e|⟨g',e,hge⟩
      .rw [e]at hg;exact⟨HO.o.2.2 g hg,.inl (by have:=ht hg;omega)⟩
      .rw [e]at hg;cases hg;have:=Q9.out.2.2.2.2.2;have:=HA5.o.lt;exact⟨oM,.inr oM⟩
     have str10:=zh Q9.out.1 3 (.map (some mb2));have str11:=(hu11.block b (zd str10) (fun e=>hbv5 e)).trans str10;have str12:=zh str11 4 (.slice ao11 (G.length+1) c11);have s4:=za str11 4;have f4:=zf str11 4;simp at s4;have hd58:Dis v8 (Value.slice aog G.length cg):=fun g h1 h2=>by
      have:=(P8.out.2.1 g (by rw[<-P8.out.2.2.2.2.2];exact h1)).1;have:=HG5.o.lt h2;have:=HU7.o.size;omega
     have hb11:(Value.slice ao11 (G.length+1) c11).ownBlock≠some b:=fun e=>by have:=(hob11 b e).1;have:=HO.o.2.1;omega
     have ks12:=((Q9.out.2.1.ky (zi w9 b 3 (.map (some mb2))) hbv8).kz hd58 hu11).ky (zi w11 b 4 (.slice ao11 (G.length+1) c11)) hbv8;have gs12:=hs11.ky (zi w11 b 4 (.slice ao11 (G.length+1) c11)) hb11;have as12:=((Q9.out.2.2.2.1.keep (zi w9 b 3 (.map (some mb2))) hbmb).keep hu11 (fun e=>by have:=HO.o.2.2 mb2 e;omega)).keep (zi w11 b 4 (.slice ao11 (G.length+1) c11)) hbmb;have U12:=(((Q9.out.2.2.2.2.1.trans (zi w9 b 3 (.map (some mb2)))).new hu11 (fun i hi e=>by have:=HO.o.2.2 i e;have:=HO.o.2.1;omega))).trans (zi w11 b 4 (.slice ao11 (G.length+1) c11));have e12:ints G++[.int .i64 k]=ints (G++[k]):=oe;rw[e12]at gs12;have M12:CkMem (w11.setCell ⟨b,4,none⟩ (.slice ao11 (G.length+1) c11)) b mb2 N v8 (.slice ao11 (G.length+1) c11) most few (restK K p) A2 (G++[k]):={
      str:=by simpa using str12
      ks:=ks12
      gs:=by simpa using gs12
      set:=as12
      kb:=hbv8
      gb:=hb11
      km:=fun e=>by have:=(P8.out.2.1 mb2 (by rw[<-P8.out.2.2.2.2.2];exact e)).1;have:=HA5.o.lt;have:=HU7.o.size;omega
      gm:=fun e=>by have:=(hob11 mb2 e).1;omega
      bm:=hbmb
      kg:=fun g h1 h2=>by
       have h3:=P8.out.2.1 g (by rw[<-P8.out.2.2.2.2.2];exact h1);have h4:=(hob11 g h2).2;omega}
     have HM12:=qqh M12;have HU12:=qqh U12;clear M12 U12 as12 gs12 ks12 e12 hbf11 hu11 hs11 str10 str11 str12 hb11 hd58;go_wp2
     generalize w11.setCell ⟨b,4,none⟩ (.slice ao11 (G.length+1) c11)=w12 at*;have c12:=HM12.o.c;have c12a:=c12.2.1;have c12b:=c12.2.2.2.2;clear c12 s4 f4 s3 f3;have HV:Hid (EvYes fm few K A G k (restK K p) A2 (trimG few (G++[k]))):=by
      refine⟨⟨p,hpl,HKK.o,rfl,fun hx=>?_,?_,fun j hj hjp e=>(R0.out.2.2.2.1 j hj (by have:=Nat.mod_le h K.length;rw[<-HP.o]at this;omega)).2 e⟩,rfl,HA.o,R0.out.2.1⟩
      .by_cases h0:h=0
       .refine ⟨?_,R0.out.2.2.1.1 h0⟩;rw[HP.o,h0];exact Nat.zero_mod _
       .have hh0:K.head?=some K[0]:=by rw[List.head?_eq_getElem?];exact qyj oM
        have h1:=(R0.out.2.2.2.1 0 oM oM).1;have h2:=hx _ hh0;rw[h2.1,h2.2]at h1;simp at h1
      .by_cases h0:h=0
       .exact .inl ⟨by rw[HP.o,h0];exact Nat.zero_mod _,R0.out.2.2.1.1 h0⟩
       .right
        by_cases h1:h<K.length
        .left;rw[HP.o,qXs h1];omega
        .right
         intro x hx;obtain⟨j,hj,rfl⟩:=qyv hx;exact(R0.out.2.2.2.1 j hj oM).1
     have HE:Hid (evR fm few K A G=(k,0,restK K p,A2,trimG few (G++[k]))):=by
      show _=_;have e:K.getD p 0=k:=by rw[HKK.o];simp[hpl]
      unfold evR;rw[<-R0.out.2.2.1.2,QV oM HKK.o HP.o HM.o HA.o];simp only[e]
     have hob:Hid (∀(v13:Value),(v13.ownBlock=(Value.slice ao11 (G.length+1) c11).ownBlock)->∀j,Qw b mb2 v8 v13 j->Qw b mb vk vg j\/w.heap.size<=j):=by
      intro v13 hv j hj;rcases hj with rfl|rfl|hj|hj
      .exact .inl (.inl rfl)
      .right;have:=HO.o.2.1;omega
      .right;have:=(P8.out.2.1 j (by rw[<-P8.out.2.2.2.2.2];exact hj)).1;omega
      .right;rw[hv]at hj;have:=(hob11 j hj).1;have:=HO.o.2.1;omega
     by_cases hf:few<G.length+1
     .have qf:decide ((few:Int)<(G.length:Int)+1)=true:=by simp;omega
      go_quiet(fail)
      generalize hw13:w12.drewN nq=w13;have hu13:Upd (fun _=>False) w12 w13:=by rw[<-hw13];exact(uur _ _).drewN _
      have M13:=qqh (HM12.o.keep hu13 (fun _ _ h=>h));have HU13:=qqh (HU12.o.trans (hu13.mono fE));clear hw13 hu13 c12a c12b;have c13:=M13.out.c.2.2.2.2;have hl13:Hid (0<(G++[k]).length/\(G++[k]).length<=4096/\(G++[k]).tail=trimG few (G++[k])):=by
       refine⟨oe,by simp;omega,?_⟩;unfold trimG;rw[if_pos og]
      go_wp2_with fail
      refine(Tj M13.out.gs hl13.out.2.1 hl13.out.1).mono ?_;rintro e w14 ⟨ao14,n14,c14,rfl,hbe,hs14,hu14⟩;have M15:=qqh (M13.out.setGhosts hu14 hs14 (.inl hbe));have U15:Hid (Upd (fun j=>j=b) w (w14.setCell ⟨b,4,none⟩ (.slice ao14 n14 c14))):=
       (HU13.o.new hu14 (fun i hi e=>by have:=(hob11 i e).1;have:=HO.o.2.1;omega)).trans (zi _ _ _ _)
      have hstr14:=(hu14.block b (zd M13.out.str) (fun e=>M13.out.gb e)).trans M13.out.str;have s14:=za hstr14 4;have f14:=zf hstr14 4;simp at s14;have HB14:=qqh hbe;clear hu14 hs14 hbe hstr14 c13;dsimp only;clear hwr htn hAa;go_wp2
      rw[qxq];go_ret2
      refine⟨k,0,restK K p,A2,trimG few (G++[k]),mb2,v8,_,rfl,⟨.inr ⟨rfl,HV.o⟩,HE.o⟩,?_,hob.out _ HB14.o,U15.out⟩;rw[<-hl13.out.2.2];exact M15.out
     .have qf:decide ((few:Int)<(G.length:Int)+1)=false:=by simp;omega
      go_quiet(fail)
      have hT:Hid (G++[k]=trimG few (G++[k])):=by show _=_;unfold trimG;rw[if_neg og]
      go_wp2
      rw[qxq];go_ret2
      refine⟨k,0,restK K p,A2,trimG few (G++[k]),mb2,v8,_,rfl,⟨.inr ⟨rfl,HV.o⟩,HE.o⟩,?_,hob.out _ rfl,HU12.o.drewN _⟩;rw[<-hT.out];exact HM12.o.keep ((uur (fun _=>False) _).drewN _) (fun _ _ h=>h)
    .have HA:=qqh hask;clear hask;obtain⟨w8,hrun,hs8,hu8,hz8⟩:=SetAt.drop hA7.out (x:=k) hkr 0;have R8:=Y2 hs8 hu8;clear hs8 hu8 hz8;go_wp2
     go_roundg (gk-1)
     case measure=>omega
     case rel=>
      refine⟨h+1,oM,by go_num,updB A2 k false,R8.out.1,?_,⟨oM,(QU oM HKK.o HP.o HM.o HA.o).symm.trans R0.out.2.2.1.2⟩,fun j hj hjh=>?_,HU7.o.trans R8.out.2⟩
      .intro x hx;by_cases e:x=k
       .subst e;simp[updB]at hx
       .simp only[updB,if_neg e]at hx;exact R0.out.2.1 x hx
      .by_cases h0:j<h
       .refine ⟨(R0.out.2.2.2.1 j hj h0).1,fun e=>?_⟩;unfold updB;split
        .rfl
        .exact (R0.out.2.2.2.1 j hj h0).2 e
       .have hp0:p=j:=by rw[HP.o,show h=j by omega];exact qXs hj
        subst hp0;rw[<-HKK.o];exact⟨.inr (R0.out.2.1 k HA.o),fun _=>by simp[updB]⟩
  .have he:Hid (∀x∈K,fm x=false\/A x=true):=by
    intro x hx;obtain⟨j,hj,rfl⟩:=qyv hx;exact(R0.out.2.2.2.1 j hj oM).1
   have hE:Hid (evR fm few K A G=(0,14,K,A,G)):=by
    show _=_;unfold evR;rw[<-R0.out.2.2.1.2,show gk=0 by omega];rfl
   have hM:Hid (CkMem wr b mb N vk vg most few K A G):=(H5.o.keep R0.out.2.2.2.2 (fun j hj e=>by subst e;have:=H.o.slt _ hj;have:=HO.o.2.1;omega)).toCkMem;have hU:Hid (Upd (fun j=>j=b) w wr):=(hU5.out.new R0.out.2.2.2.2 (fun i hi e=>by have:=HO.o.2.1;omega)).mono fE;go_wp2
   rw[qxq];go_ret2
   exact⟨0,14,K,A,G,mb,vk,vg,rfl,⟨.inl ⟨rfl,rfl,rfl,rfl,rfl,he.out⟩,hE.out⟩,hM.out,fun j hj=> .inl hj,hU.out⟩
theorem evict_ck{S:Nat->Prop}{w:World}{b N most few:Nat}{K G:List Int}{A:Int->Bool}(h:Ck S w b N most few K A G)(hn:∀j,w.heap.size<=j->S j)(xv:Value)(fm:Int->Bool)(hmay:MayIs xv fm w):
  Calls prog 424 #[.pointer (some ⟨b,0,none⟩),mayV xv] w fun e w'=>∃key code K' A' G',e=.returned (.tuple #[.int .i64 key,.int .i64 code])/\
   EvOut fm few K A G key code K' A' G'/\Ck S w' b N most few K' A' G'/\Upd S w w':=by
 obtain⟨mb,vk,vg,h,hS⟩:=h;refine(QW h xv fm hmay).mono ?_;rintro e w' ⟨key,code,K',A',G',mb',vk',vg',rfl,ho,hm,hb,hu⟩;exact⟨key,code,K',A',G',rfl,ho,⟨mb',vk',vg',⟨hm,ho.good h.good⟩,fun j hj=>(hb j hj).elim (hS j) (hn j)⟩,hu.mono (fun j _ hj=>by subst hj;exact hS _ (.inl rfl))⟩
end Go.Proofs.YtpejdgiccaijfaaGreatDoor.EvG
namespace Go.Proofs.YtpejdgiccaijfaaGreatDoor
open Go Go.RowKit Go.Shelf Tryz
attribute [local go_sem] qYa
abbrev It7:=Int×Bool
abbrev zad(x:It7):Array Value:= #[.int .i64 x.1,.bool x.2]
def kaL(K:List Int)(A:Int->Bool):List It7:=K.map fun k=>(k,A k)
theorem tY(K:List Int)(A:Int->Bool):(kaL K A).length=K.length:=by simp[kaL]
theorem QX(K:List Int)(A:Int->Bool){k:Nat}(h:k<K.length):(kaL K A).take (k+1)=(kaL K A).take k++[(K[k],A K[k])]:=by
 rw[qXk (by rw[tY];exact h)];simp[kaL]
theorem Xb{β:Type}{B:Nat}{J:β->World->Prop}(hJ:AbidesFrom B J){s:β}{W W':World}(h:J s W)(hu:Upd (fun _=>False) W W'):J s W':=
 hJ s W W' none h ⟨hu.os,hu.tape,hu.output,hu.size,fun k hk _=>hu.block k hk id⟩ (fun r e=>by cases e)
theorem zcD(n:Nat)(hn:2<=n)(S:Nat->Prop)(l Bs Bm mb N:Nat)(K:List Int)(A:Int->Bool)(v:Value)
  (hle:K.length<=4096) (hr:∀x∈K,InR x) (hv:∀g,v.ownBlock=some g->¬S g) (hBm:¬S Bm) (hmb:¬S mb) (J Jx:List It7->World->Prop) (B0:Nat) (hJ:AbidesFrom B0 J)
  (hY:∀pre (x:It7) W,J pre W->pre.length<K.length->YieldAt Fence.wide (n-1) prog l (zad x) W fun e W'=>
   (e=.returned (.bool true)/\J (pre++[x]) W'/\Upd S W W')\/(e=.returned (.bool false)/\Jx (pre++[x]) W'))
  (W:World) (hBs:W.cell? ⟨Bs,0,none⟩=some v) (hcm:W.cell? ⟨Bm,0,none⟩=some (.map (some mb))) (hs:Sl W 3 1 v K.length (ints K)) (ha:SetAt W mb N A) (h0:J [] W):
  CallsIn Fence.wide n prog 468 #[.func (.yield l) #[] #[],.pointer (some ⟨Bs,0,none⟩),.pointer (some ⟨Bm,0,none⟩)] W fun e W'=>(∃v,e=.returned v)/\
   ((∃ys,ys=kaL K A/\J ys W')\/(∃pre,pre<+:kaL K A/\Jx pre W')):=by
 have HS:=qqh hs;have HA:=qqh ha;have HV:=qqh hv;have HR:=qqh hr;have hBmW:=(zJ hcm).2;obtain⟨ao,c,rfl⟩:=hs.rd.jU;clear hs ha hv hr;refine callsIn_of_wp func468 rfl trivial ?_ rfl;simp only[ntmps468,qXh,qyz,qzc,Nat.reduceAdd,Nat.reduceSub,qxi,qxj,qXb,qxy,qzu,qxz]
 gi_wp2
 gi_loopw [8] (fun i wr=>∃k:Nat,k<=K.length/\i=.int .i64 k/\J ((kaL K A).take k) wr/\Upd S W wr)
  (fun i _=>K.length-(intOf i).toNat)
 case atStart=>exact⟨0,qXy _,rfl,h0,uur _ _⟩
 case round=>
  obtain⟨k,hk,rfl,hJs,hnx⟩:=hrel;have hcm':wr.cell? ⟨Bm,0,none⟩=some (.map (some mb)):=(hnx.cellAt hBmW hBm).trans hcm;by_cases hlt:k<K.length
  .have hsr:=HS.o.keep hnx HV.o;obtain⟨gk,ok,ck,hvk,hgk,hck⟩:=hsr.rd.at oM;cases hvk;have hcell:=hck k _ (yk hlt);have HA2:=qqh (HA.o.keep hnx hmb);have HM:Hid ((kaL K A).take (k+1)=(kaL K A).take k++[(K[k],A K[k])]):=QX K A hlt;have HLT:Hid (((kaL K A).take k).length<K.length):=by show _<_;rw[qzf,tY];omega
   have hkr:InR K[k]:=HR.o _ (qyu hlt);obtain⟨x,hx⟩:=qqe (K[k]);rw[<-hx]at hcell HM hkr;clear hsr hck hgk hx
   gi_wp2_with fail
   refine⟨trivial,fun _=>oM,?_⟩;refine(callsIn_wide.2 (uh HA2.o x hkr)).mono ?_;rintro e w3 ⟨rfl,hb3⟩;have hu4:=qqb hb3;have HJ:=qqh (Xb hJ hJs hu4);have HU:=qqh (hnx.trans (hu4.mono (S':=S) (fun _ _ h=>h.elim)));obtain⟨fn,tmps,assign,body,hy,hR⟩:=hY _ (x,A x) w3 HJ.o HLT.o;simp only[zad]at hy;clear hb3 hu4
   gi_wp2
   refine⟨fun _=>oM,?_⟩;refine hR.mono ?_;rintro e W3 (⟨rfl,hJ3,hk3⟩|⟨rfl,hJx3⟩)
   .have HJ3:=qqh hJ3;have HU3:=qqh (HU.o.trans hk3);clear hJ3 hk3 hR
    gi_wp2
    go_roundw
    case rel=>exact⟨k+1,oM,oe,by rw[HM.o];exact HJ3.o,HU3.o⟩
    case measure=>simp[intOf];omega
   .clear hR
    gi_wp2
    refine qYp (qYu rfl _ _ _) rfl ?_;exact⟨⟨_,rfl⟩,.inr ⟨_,by rw[<-HM.o];exact List.take_prefix _ _,hJx3⟩⟩
  .obtain rfl:k=K.length:=oM;have HT:Hid ((kaL K A).take K.length=kaL K A):=qXj (by rw[tY];exact qXo _)
   gi_wp2
   go_end0
   exact⟨⟨_,rfl⟩,.inl ⟨_,rfl,by rw[<-HT.o];exact hJs⟩⟩
def zae{α:Type}(enc:α->Array Value)(w:World)(gf:Nat)(lb:Array Value)(xs:List α):Prop:=
 (∀args w,(callFunc gf args).run prog w=.ok (.enter gf args) w)/\
 ∀(n:Nat),2<=n->∀(S:Nat->Prop),(∀j,S j->w.heap.size<=j)->∀w2,Below w.heap.size w w2->
  SeqStopsK Fence.wide n prog gf lb enc (Upd S) (fun ys=>ys=xs) (fun pre=>pre<+:xs) xs.length w2
theorem yg{W:World}{p:Nat}{v:Value}(h:∃u,W.cell? ⟨p,0,none⟩=some u):(W.setCell ⟨p,0,none⟩ v).cell? ⟨p,0,none⟩=some v:=by
 obtain⟨u,h⟩:=h;exact World.cell?_setCell_same W _ v h
theorem wO{W:World}{p q:Nat}{v:Value}(h:p≠q):(W.setCell ⟨q,0,none⟩ v).cell? ⟨p,0,none⟩=W.cell? ⟨p,0,none⟩:=
 World.cell?_of_block (a:=⟨p,0,none⟩) (w:=W) (Below.heap_setCell W ⟨q,0,none⟩ v p h)
theorem yh{W:World}{p q:Nat}{v v':Value}(hne:p≠q)(h:∃u,W.cell? ⟨p,0,none⟩=some u):((W.setCell ⟨q,0,none⟩ v').setCell ⟨p,0,none⟩ v).cell? ⟨p,0,none⟩=some v:=by
 obtain⟨u,h⟩:=h;exact yg ⟨u,(wO hne).trans h⟩
theorem vG{W:World}{p:Nat}{o:Obj}(h:p<W.heap.size):(W.alloc o).cell? ⟨p,0,none⟩=W.cell? ⟨p,0,none⟩:=
 World.cell?_of_block (a:=⟨p,0,none⟩) (w:=W) (qxk W o p h)
theorem xT{W:World}{n:Nat}{v:Value}{T:TypeId}(h:n=W.heap.size):(W.alloc (.cells #[v] T)).cell? ⟨n,0,none⟩=some v:=
 za (zc W _ h) 0
def VE(w:World)(N:Nat)(K:List Int)(A:Int->Bool)(e:Ending)(w':World):Prop:=
 ∃Bs Bm v m2,e=.returned (.func (.func 468) #[] #[.pointer (some ⟨Bs,0,none⟩),.pointer (some ⟨Bm,0,none⟩)])/\
   w'.cell? ⟨Bs,0,none⟩=some v/\w'.cell? ⟨Bm,0,none⟩=some (.map (some m2))/\Sl w' 3 1 v K.length (ints K)/\SetAt w' m2 N A/\Below w.heap.size w w'
theorem JT{w w3 w4 W:World}{N Bs Bm m2:Nat}{K:List Int}{A:Int->Bool}{v:Value}{e:Ending}(he:e=.returned (.func (.func 468) #[] #[.pointer (some ⟨Bs,0,none⟩),.pointer (some ⟨Bm,0,none⟩)]))
  (c1:W.cell? ⟨Bs,0,none⟩=some v) (c2:W.cell? ⟨Bm,0,none⟩=some (.map (some m2))) (hs:Sl w3 3 1 v K.length (ints K)) (h34:Upd (fun _=>False) w3 w4) (ha:SetAt w4 m2 N A) (hu:Upd (fun j=>j=Bs\/j=Bm) w4 W)
  (hv:∀g,v.ownBlock=some g->g≠Bs/\g≠Bm) (hm:m2≠Bs/\m2≠Bm) (h03:Upd (fun _=>False) w w3) (hB:w.heap.size<=Bs/\w.heap.size<=Bm):VE w N K A e W:=
 ⟨Bs,Bm,v,m2,he,c1,c2,(hs.keep h34 (fun _ _ h=>h)).keep hu (fun g hg h=>h.elim (hv g hg).1 (hv g hg).2),ha.keep hu (fun h=>h.elim hm.1 hm.2),
  zj (zj (zj (qxl _ w) h03 (qXo _) (fun _ h=>h.elim)) h34 (qXo _) (fun _ h=>h.elim)) hu (qXo _) (fun _j h=>h.elim (fun e=>e▸hB.1) (fun e=>e▸hB.2))⟩
theorem JU{w:World}{b mb N most few:Nat}{vk vg:Value}{K G:List Int}{A:Int->Bool}(h:CkAt w b mb N vk vg most few K A G):
  Calls prog 443 #[.pointer (some ⟨b,0,none⟩)] w (VE w N K A):=by
 have H:=qqh (fun(W:World) (hu:Upd (fun _=>False) w W)=>h.keep hu (fun _ _ h=>h));have hblt:=h.blt;have hkl:=h.kle;have hk4:K.length<=4096:=oM;have g2:=h.c.2.2.1;have g3:=h.c.2.2.2.1;clear h;have nw0:¬b=w.heap.size:=oM;have nw1:¬w.heap.size=b:=oM;have nw2:¬b=w.heap.size+1:=oM;have nw3:¬w.heap.size+1=b:=oM;have C0:=qqh (H.o (w.drew) ((uur _ _).drew));have CA:=qqh (H.o ((w.alloc (.cells #[.slice none 0 0] 87)).drew) (((uur _ _).alloc _).drew));have LA0:Hid (((w.alloc (.cells #[.slice none 0 0] 87)).drew).heap[w.heap.size]?=some (.cells #[.slice none 0 0] 87 (0,0))):=zc w _ rfl;have CB:=qqh (H.o ((w.alloc (.cells #[.map none] 330)).drew) (((uur _ _).alloc _).drew));have LB0:Hid (((w.alloc (.cells #[.map none] 330)).drew).heap[w.heap.size]?=some (.cells #[.map none] 330 (0,0))):=zc w _ rfl;have CAB:=qqh (H.o (((w.alloc (.cells #[.slice none 0 0] 87)).alloc (.cells #[.map none] 330)).drew) ((((uur _ _).alloc _).alloc _).drew));have LAB0:Hid ((((w.alloc (.cells #[.slice none 0 0] 87)).alloc (.cells #[.map none] 330)).drew).heap[w.heap.size]?=some (.cells #[.slice none 0 0] 87 (0,0))):=((((uur (fun _=>False) (w.alloc (.cells #[.slice none 0 0] 87))).alloc (.cells #[.map none] 330)).block w.heap.size oe id).trans (zc w _ rfl))
 have LAB1:Hid ((((w.alloc (.cells #[.slice none 0 0] 87)).alloc (.cells #[.map none] 330)).drew).heap[w.heap.size+1]?=some (.cells #[.map none] 330 (0,0))):=zc (w.alloc _) _ oe;have CBA:=qqh (H.o (((w.alloc (.cells #[.map none] 330)).alloc (.cells #[.slice none 0 0] 87)).drew) ((((uur _ _).alloc _).alloc _).drew));have LBA0:Hid ((((w.alloc (.cells #[.map none] 330)).alloc (.cells #[.slice none 0 0] 87)).drew).heap[w.heap.size]?=some (.cells #[.map none] 330 (0,0))):=((((uur (fun _=>False) (w.alloc (.cells #[.map none] 330))).alloc (.cells #[.slice none 0 0] 87)).block w.heap.size oe id).trans (zc w _ rfl))
 have LBA1:Hid ((((w.alloc (.cells #[.map none] 330)).alloc (.cells #[.slice none 0 0] 87)).drew).heap[w.heap.size+1]?=some (.cells #[.slice none 0 0] 87 (0,0))):=zc (w.alloc _) _ oe;go_enter func443,ntmps443
 go_wp2
 go_region_held3 (fun W=>W.cell? ⟨b,2,none⟩=some vk/\W.cell? ⟨b,3,none⟩=some (.map (some mb))) (go_keep)
  (first
  |((go_at_call 302;(with_reducible refine(yA C0.out.ks.rd hk4).mono ?_);rintro e w3 ⟨v3,rfl,hs3,hf3,hb3⟩;obtain⟨ao3,c3,rfl⟩:=hs3.rd.jU;have hu3:Upd (fun _=>False) w w3:=Upd.trans ((uur _ _).drew) (uuo hb3);have hX:Hid (∀W,Upd (fun _=>False) w3 W->True/\True):=fun W hu=>⟨trivial,trivial⟩;have bl3:b<w3.heap.size:=qXr hblt hu3.size;have nx0:¬b=w3.heap.size:=oM;have nx1:¬w3.heap.size=b:=oM;have nx2:¬b=w3.heap.size+1:=oM;have nx3:¬w3.heap.size+1=b:=oM;have k2:=(H.o _ hu3).c.2.2.1;have k3:=(H.o _ hu3).c.2.2.2.1;have F3:=Y4 hs3 hf3 hb3 hu3;clear hs3 hf3 hb3 hu3))
  |((go_at_call 302;(with_reducible refine(yA CA.out.ks.rd hk4).mono ?_);rintro e w3 ⟨v3,rfl,hs3,hf3,hb3⟩;obtain⟨ao3,c3,rfl⟩:=hs3.rd.jU;have hu3:Upd (fun _=>False) w w3:=Upd.trans (((uur _ _).alloc _).drew) (uuo hb3);have hX:Hid (∀W,Upd (fun _=>False) w3 W->W.heap[w.heap.size]?=some (.cells #[.slice none 0 0] 87 (0,0))/\True):=fun W hu=>⟨(hu.block _ (qXr (zd LA0.out) hb3.size) id).trans ((hb3.block _ (zd LA0.out)).trans LA0.out),trivial⟩;have z0:w.heap.size<w3.heap.size:=qXr (zd LA0.out) hb3.size;have za0:=qXw z0;have zb0:=qXv z0;have bl3:b<w3.heap.size:=qXr hblt hu3.size;have nx0:¬b=w3.heap.size:=oM;have nx1:¬w3.heap.size=b:=oM;have nx2:¬b=w3.heap.size+1:=oM;have nx3:¬w3.heap.size+1=b:=oM;have k2:=(H.o _ hu3).c.2.2.1;have k3:=(H.o _ hu3).c.2.2.2.1;have F3:=Y4 hs3 hf3 hb3 hu3;clear hs3 hf3 hb3 hu3))
  |((go_at_call 302;(with_reducible refine(yA CB.out.ks.rd hk4).mono ?_);rintro e w3 ⟨v3,rfl,hs3,hf3,hb3⟩;obtain⟨ao3,c3,rfl⟩:=hs3.rd.jU;have hu3:Upd (fun _=>False) w w3:=Upd.trans (((uur _ _).alloc _).drew) (uuo hb3);have hX:Hid (∀W,Upd (fun _=>False) w3 W->W.heap[w.heap.size]?=some (.cells #[.map none] 330 (0,0))/\True):=fun W hu=>⟨(hu.block _ (qXr (zd LB0.out) hb3.size) id).trans ((hb3.block _ (zd LB0.out)).trans LB0.out),trivial⟩;have z0:w.heap.size<w3.heap.size:=qXr (zd LB0.out) hb3.size;have za0:=qXw z0;have zb0:=qXv z0;have bl3:b<w3.heap.size:=qXr hblt hu3.size;have nx0:¬b=w3.heap.size:=oM;have nx1:¬w3.heap.size=b:=oM;have nx2:¬b=w3.heap.size+1:=oM;have nx3:¬w3.heap.size+1=b:=oM;have k2:=(H.o _ hu3).c.2.2.1;have k3:=(H.o _ hu3).c.2.2.2.1;have F3:=Y4 hs3 hf3 hb3 hu3;clear hs3 hf3 hb3 hu3))
  |((go_at_call 302;(with_reducible refine(yA CAB.out.ks.rd hk4).mono ?_);rintro e w3 ⟨v3,rfl,hs3,hf3,hb3⟩;obtain⟨ao3,c3,rfl⟩:=hs3.rd.jU;have hu3:Upd (fun _=>False) w w3:=Upd.trans ((((uur _ _).alloc _).alloc _).drew) (uuo hb3);have hX:Hid (∀W,Upd (fun _=>False) w3 W->W.heap[w.heap.size]?=some (.cells #[.slice none 0 0] 87 (0,0))/\W.heap[w.heap.size+1]?=some (.cells #[.map none] 330 (0,0))):=fun W hu=>⟨(hu.block _ (qXr (zd LAB0.out) hb3.size) id).trans ((hb3.block _ (zd LAB0.out)).trans LAB0.out),(hu.block _ (qXr (zd LAB1.out) hb3.size) id).trans ((hb3.block _ (zd LAB1.out)).trans LAB1.out)⟩;have z0:w.heap.size<w3.heap.size:=qXr (zd LAB0.out) hb3.size;have za0:=qXw z0;have zb0:=qXv z0;have z1:w.heap.size+1<w3.heap.size:=qXr (zd LAB1.out) hb3.size;have za1:=qXw z1;have zb1:=qXv z1;have bl3:b<w3.heap.size:=qXr hblt hu3.size;have nx0:¬b=w3.heap.size:=oM;have nx1:¬w3.heap.size=b:=oM;have nx2:¬b=w3.heap.size+1:=oM;have nx3:¬w3.heap.size+1=b:=oM;have k2:=(H.o _ hu3).c.2.2.1;have k3:=(H.o _ hu3).c.2.2.2.1;have F3:=Y4 hs3 hf3 hb3 hu3;clear hs3 hf3 hb3 hu3))
  |((go_at_call 302;(with_reducible refine(yA CBA.out.ks.rd hk4).mono ?_);rintro e w3 ⟨v3,rfl,hs3,hf3,hb3⟩;obtain⟨ao3,c3,rfl⟩:=hs3.rd.jU;have hu3:Upd (fun _=>False) w w3:=Upd.trans ((((uur _ _).alloc _).alloc _).drew) (uuo hb3);have hX:Hid (∀W,Upd (fun _=>False) w3 W->W.heap[w.heap.size]?=some (.cells #[.map none] 330 (0,0))/\W.heap[w.heap.size+1]?=some (.cells #[.slice none 0 0] 87 (0,0))):=fun W hu=>⟨(hu.block _ (qXr (zd LBA0.out) hb3.size) id).trans ((hb3.block _ (zd LBA0.out)).trans LBA0.out),(hu.block _ (qXr (zd LBA1.out) hb3.size) id).trans ((hb3.block _ (zd LBA1.out)).trans LBA1.out)⟩;have z0:w.heap.size<w3.heap.size:=qXr (zd LBA0.out) hb3.size;have za0:=qXw z0;have zb0:=qXv z0;have z1:w.heap.size+1<w3.heap.size:=qXr (zd LBA1.out) hb3.size;have za1:=qXw z1;have zb1:=qXv z1;have bl3:b<w3.heap.size:=qXr hblt hu3.size;have nx0:¬b=w3.heap.size:=oM;have nx1:¬w3.heap.size=b:=oM;have nx2:¬b=w3.heap.size+1:=oM;have nx3:¬w3.heap.size+1=b:=oM;have k2:=(H.o _ hu3).c.2.2.1;have k3:=(H.o _ hu3).c.2.2.2.1;have F3:=Y4 hs3 hf3 hb3 hu3;clear hs3 hf3 hb3 hu3))
  |((go_at_call 446;(with_reducible refine(yR (w:=w3) (H.o _ (F3.out.2.2.2.trans (uur _ _))).set).mono ?_);rintro e w4 ⟨rfl,hset4,hb4⟩;have hu34:Upd (fun _=>False) w3 w4:=Upd.trans (uur _ _) (uuo hb4);obtain⟨x0,x1⟩:=hX.out _ hu34;(try(have xa:=za x0 0));(try(have xb:=zf x0 0));(try(have xc:=za x1 0));(try(have xd:=zf x1 0));(try simp at xa);(try simp at xc);(try(have ya:=zd x0));(try(have yb:=zd x1));(try(have yc:=qXw ya));(try(have yd:=qXv ya));(try(have ye:=qXw yb));(try(have yf:=qXv yb));have X0:=qqh x0;have X1:=qqh x1;clear x0 x1;have M0:Hid True:=trivial;have M1:Hid True:=trivial;have bl4:b<w4.heap.size:=qXr (qXr hblt F3.out.2.2.2.size) hu34.size;have ny0:¬b=w4.heap.size:=oM;have ny1:¬w4.heap.size=b:=oM;have ny2:¬b=w4.heap.size+1:=oM;have ny3:¬w4.heap.size+1=b:=oM;have l2:=(H.o _ (F3.out.2.2.2.trans hu34)).c.2.2.1;have l3:=(H.o _ (F3.out.2.2.2.trans hu34)).c.2.2.2.1;have F4:=Y3 hset4 hb4 hu34;clear hset4 hb4 hu34))
  |((go_at_call 446;(with_reducible refine(yR (w:=(w3.alloc (.cells #[.slice none 0 0] 87))) (H.o _ (F3.out.2.2.2.trans ((uur _ _).alloc _))).set).mono ?_);rintro e w4 ⟨rfl,hset4,hb4⟩;have hu34:Upd (fun _=>False) w3 w4:=Upd.trans ((uur _ _).alloc _) (uuo hb4);obtain⟨x0,x1⟩:=hX.out _ hu34;(try(have xa:=za x0 0));(try(have xb:=zf x0 0));(try(have xc:=za x1 0));(try(have xd:=zf x1 0));(try simp at xa);(try simp at xc);(try(have ya:=zd x0));(try(have yb:=zd x1));(try(have yc:=qXw ya));(try(have yd:=qXv ya));(try(have ye:=qXw yb));(try(have yf:=qXv yb));have X0:=qqh x0;have X1:=qqh x1;clear x0 x1;have m0:w4.heap[w3.heap.size]?=some (.cells #[.slice none 0 0] 87 (0,0)):=(hb4.block _ oA).trans (zc w3 _ rfl);have n0:=za m0 0;have o0:=zf m0 0;simp at n0;have M0:=qqh m0;have lt0:=zd m0;have na0:=qXw lt0;have nb0:=qXv lt0;clear m0;have M1:Hid True:=trivial;have bl4:b<w4.heap.size:=qXr (qXr hblt F3.out.2.2.2.size) hu34.size;have ny0:¬b=w4.heap.size:=oM;have ny1:¬w4.heap.size=b:=oM;have ny2:¬b=w4.heap.size+1:=oM;have ny3:¬w4.heap.size+1=b:=oM;have l2:=(H.o _ (F3.out.2.2.2.trans hu34)).c.2.2.1;have l3:=(H.o _ (F3.out.2.2.2.trans hu34)).c.2.2.2.1;have F4:=Y3 hset4 hb4 hu34;clear hset4 hb4 hu34))
  |((go_at_call 446;(with_reducible refine(yR (w:=(w3.alloc (.cells #[.map none] 330))) (H.o _ (F3.out.2.2.2.trans ((uur _ _).alloc _))).set).mono ?_);rintro e w4 ⟨rfl,hset4,hb4⟩;have hu34:Upd (fun _=>False) w3 w4:=Upd.trans ((uur _ _).alloc _) (uuo hb4);obtain⟨x0,x1⟩:=hX.out _ hu34;(try(have xa:=za x0 0));(try(have xb:=zf x0 0));(try(have xc:=za x1 0));(try(have xd:=zf x1 0));(try simp at xa);(try simp at xc);(try(have ya:=zd x0));(try(have yb:=zd x1));(try(have yc:=qXw ya));(try(have yd:=qXv ya));(try(have ye:=qXw yb));(try(have yf:=qXv yb));have X0:=qqh x0;have X1:=qqh x1;clear x0 x1;have m0:w4.heap[w3.heap.size]?=some (.cells #[.map none] 330 (0,0)):=(hb4.block _ oA).trans (zc w3 _ rfl);have n0:=za m0 0;have o0:=zf m0 0;simp at n0;have M0:=qqh m0;have lt0:=zd m0;have na0:=qXw lt0;have nb0:=qXv lt0;clear m0;have M1:Hid True:=trivial;have bl4:b<w4.heap.size:=qXr (qXr hblt F3.out.2.2.2.size) hu34.size;have ny0:¬b=w4.heap.size:=oM;have ny1:¬w4.heap.size=b:=oM;have ny2:¬b=w4.heap.size+1:=oM;have ny3:¬w4.heap.size+1=b:=oM;have l2:=(H.o _ (F3.out.2.2.2.trans hu34)).c.2.2.1;have l3:=(H.o _ (F3.out.2.2.2.trans hu34)).c.2.2.2.1;have F4:=Y3 hset4 hb4 hu34;clear hset4 hb4 hu34))
  |((go_at_call 446;(with_reducible refine(yR (w:=((w3.alloc (.cells #[.slice none 0 0] 87)).alloc (.cells #[.map none] 330))) (H.o _ (F3.out.2.2.2.trans (((uur _ _).alloc _).alloc _))).set).mono ?_);rintro e w4 ⟨rfl,hset4,hb4⟩;have hu34:Upd (fun _=>False) w3 w4:=Upd.trans (((uur _ _).alloc _).alloc _) (uuo hb4);obtain⟨x0,x1⟩:=hX.out _ hu34;(try(have xa:=za x0 0));(try(have xb:=zf x0 0));(try(have xc:=za x1 0));(try(have xd:=zf x1 0));(try simp at xa);(try simp at xc);(try(have ya:=zd x0));(try(have yb:=zd x1));(try(have yc:=qXw ya));(try(have yd:=qXv ya));(try(have ye:=qXw yb));(try(have yf:=qXv yb));have X0:=qqh x0;have X1:=qqh x1;clear x0 x1;have m0:w4.heap[w3.heap.size]?=some (.cells #[.slice none 0 0] 87 (0,0)):=(hb4.block _ oA).trans (((((uur (fun _=>False) (w3.alloc (.cells #[.slice none 0 0] 87))).alloc (.cells #[.map none] 330)).block w3.heap.size oe id).trans (zc w3 _ rfl)));have n0:=za m0 0;have o0:=zf m0 0;simp at n0;have M0:=qqh m0;have lt0:=zd m0;have na0:=qXw lt0;have nb0:=qXv lt0;clear m0;have m1:w4.heap[w3.heap.size+1]?=some (.cells #[.map none] 330 (0,0)):=(hb4.block _ oA).trans (zc (w3.alloc _) _ oe);have n1:=za m1 0;have o1:=zf m1 0;simp at n1;have M1:=qqh m1;have lt1:=zd m1;have na1:=qXw lt1;have nb1:=qXv lt1;clear m1;have bl4:b<w4.heap.size:=qXr (qXr hblt F3.out.2.2.2.size) hu34.size;have ny0:¬b=w4.heap.size:=oM;have ny1:¬w4.heap.size=b:=oM;have ny2:¬b=w4.heap.size+1:=oM;have ny3:¬w4.heap.size+1=b:=oM;have l2:=(H.o _ (F3.out.2.2.2.trans hu34)).c.2.2.1;have l3:=(H.o _ (F3.out.2.2.2.trans hu34)).c.2.2.2.1;have F4:=Y3 hset4 hb4 hu34;clear hset4 hb4 hu34))
  |((go_at_call 446;(with_reducible refine(yR (w:=((w3.alloc (.cells #[.map none] 330)).alloc (.cells #[.slice none 0 0] 87))) (H.o _ (F3.out.2.2.2.trans (((uur _ _).alloc _).alloc _))).set).mono ?_);rintro e w4 ⟨rfl,hset4,hb4⟩;have hu34:Upd (fun _=>False) w3 w4:=Upd.trans (((uur _ _).alloc _).alloc _) (uuo hb4);obtain⟨x0,x1⟩:=hX.out _ hu34;(try(have xa:=za x0 0));(try(have xb:=zf x0 0));(try(have xc:=za x1 0));(try(have xd:=zf x1 0));(try simp at xa);(try simp at xc);(try(have ya:=zd x0));(try(have yb:=zd x1));(try(have yc:=qXw ya));(try(have yd:=qXv ya));(try(have ye:=qXw yb));(try(have yf:=qXv yb));have X0:=qqh x0;have X1:=qqh x1;clear x0 x1;have m0:w4.heap[w3.heap.size]?=some (.cells #[.map none] 330 (0,0)):=(hb4.block _ oA).trans (((((uur (fun _=>False) (w3.alloc (.cells #[.map none] 330))).alloc (.cells #[.slice none 0 0] 87)).block w3.heap.size oe id).trans (zc w3 _ rfl)));have n0:=za m0 0;have o0:=zf m0 0;simp at n0;have M0:=qqh m0;have lt0:=zd m0;have na0:=qXw lt0;have nb0:=qXv lt0;clear m0;have m1:w4.heap[w3.heap.size+1]?=some (.cells #[.slice none 0 0] 87 (0,0)):=(hb4.block _ oA).trans (zc (w3.alloc _) _ oe);have n1:=za m1 0;have o1:=zf m1 0;simp at n1;have M1:=qqh m1;have lt1:=zd m1;have na1:=qXw lt1;have nb1:=qXv lt1;clear m1;have bl4:b<w4.heap.size:=qXr (qXr hblt F3.out.2.2.2.size) hu34.size;have ny0:¬b=w4.heap.size:=oM;have ny1:¬w4.heap.size=b:=oM;have ny2:¬b=w4.heap.size+1:=oM;have ny3:¬w4.heap.size+1=b:=oM;have l2:=(H.o _ (F3.out.2.2.2.trans hu34)).c.2.2.1;have l3:=(H.o _ (F3.out.2.2.2.trans hu34)).c.2.2.2.1;have F4:=Y3 hset4 hb4 hu34;clear hset4 hb4 hu34)))
 all_goals
  go_wp2
  go_ret
  have hz3:=F3.out.2.2.1.size;have hz4:=F4.out.2.1.size;have hz34:=F4.out.2.2.size;have hm4:=F4.out.1.lt;simp only[qYl,World.size_drew]at hz3 hz4 hm4;have hvb:∀g,(Value.slice ao3 K.length c3).ownBlock=some g->g<w3.heap.size:=fun g hg=>F3.out.1.lt hg;have hvf:∀g,(Value.slice ao3 K.length c3).ownBlock=some g->_<=g:=F3.out.2.1;simp only[qYl,World.size_drew]at hvf;refine JT rfl ?c1 ?c2 F3.out.1 F4.out.2.2 F4.out.1 ?u ?v ?m F3.out.2.2.2 ?B
  case u=>(repeat (first|exact uur _ _|refine Upd.alloc ?_ _|refine Upd.setCell ?_ _ (fun _=>oe) _))
  case B=>exact⟨oM,oM⟩
  case m=>(try simp only[qYl]);exact⟨oM,oM⟩
  case v=>exact fun g hg=>⟨by have:=hvb g hg;have:=hvf g hg;omega,by have:=hvb g hg;have:=hvf g hg;omega⟩
  case c1=>with_reducible first|(first|exact xT oe|exact yh oM ⟨_,‹_›⟩|exact yg ⟨_,‹_›⟩)|(refine(wO ?_).trans ?_;omega;first|exact xT oe|exact yh oM ⟨_,‹_›⟩|exact yg ⟨_,‹_›⟩)|(refine(vG ?_).trans ?_;((try simp only[qYl,World.size_setCell]);omega);first|exact xT oe|exact yh oM ⟨_,‹_›⟩|exact yg ⟨_,‹_›⟩)
  case c2=>(try simp only[qYl]);with_reducible first|(first|exact xT oe|exact yh oM ⟨_,‹_›⟩|exact yg ⟨_,‹_›⟩)|(refine(wO ?_).trans ?_;omega;first|exact xT oe|exact yh oM ⟨_,‹_›⟩|exact yg ⟨_,‹_›⟩)|(refine(vG ?_).trans ?_;((try simp only[qYl,World.size_setCell]);omega);first|exact xT oe|exact yh oM ⟨_,‹_›⟩|exact yg ⟨_,‹_›⟩)
theorem Wy{S:Nat->Prop}{w:World}{b N most few:Nat}{K G:List Int}{A:Int->Bool}(h:Ck S w b N most few K A G):
  Calls prog 443 #[.pointer (some ⟨b,0,none⟩)] w fun e w'=>∃gf lb,e=.returned (.func (.func gf) #[] lb)/\zae zad w' gf lb (kaL K A)/\Below w.heap.size w w':=by
 obtain⟨mb,vk,vg,h,-⟩:=h;refine(JU h).mono ?_;rintro e w1 ⟨Bs,Bm,v,m2,rfl,c1,c2,hs,ha,hB⟩;refine⟨_,_,rfl,⟨enters_of func468 kR rfl,fun n hn S hS w2 hw2=>?_⟩,hB⟩;intro l J Jx W hW hJ _ hY h0;have hlt:∀{j:Nat},j<w1.heap.size->¬S j:=fun hj e=>by have:=hS _ e;omega
 have hU:=qqb hw2;have hU2:Upd (fun _=>False) w1 W:=hU.trans (uuo hW);rw[tY]at hY;exact zcD n hn S l Bs Bm m2 N K A v (by have:=h.kle;omega) h.good.kr (fun g hg=>hlt (hs.lt hg)) (hlt (zJ c2).2) (hlt ha.lt) J Jx W.heap.size hJ hY W ((hU2.cellAt (zJ c1).2 id).trans c1) ((hU2.cellAt (zJ c2).2 id).trans c2)
  (hs.keep hU2 (fun _ _ h=>h)) (ha.keep hU2 id) h0
end Go.Proofs.YtpejdgiccaijfaaGreatDoor
namespace Go.Proofs.YtpejdgiccaijfaaGreatDoor
open Go Go.RowKit Tryz
def szF:List Nat:=[6,6,2,2,1,3,3,3,3,3,3,3,3]
def zaf(gs gt:Nat):Value:=.agg #[.int .i64 6,.slice (some ⟨gs,0,none⟩) 13 13,.func (.func 296) #[] #[],.func (.func 297) #[] #[.pointer (some ⟨gt,0,none⟩)],.func (.func 299) #[] #[]]
def zcE(w:World)(gs gt:Nat):Prop:=w.rangeAt gs 0 (ints (natsI szF))/\∃v,w.cell? ⟨gt,0,none⟩=some v/\Bnd w v zcj
theorem JV:(prog.info? 355).map (·.size)=some 5:=kR
theorem uu(w:World):Calls prog 224 #[] w fun e w'=>∃gs gt,e=.returned (zaf gs gt)/\zcE w' gs gt/\Below w.heap.size w w':=by
 have hmf:=qqf;go_enter func224,ntmps224
 go_wp2_with fail
 refine(xo).mono ?_;rintro e w1 ⟨rfl,rfl⟩;go_wp2
 obtain⟨h1,h2,h3,h4,h5,h6,h7⟩:=ue w (.cells #[.int .i64 6,.slice (some ⟨w.heap.size+1+1+1+1,0,none⟩) 13 13,.func (.func 296) #[] #[],.func (.func 297) #[] #[.pointer (some ⟨w.heap.size+1+1+1,0,none⟩)],.func (.func 299) #[] #[]] 355)
  (.cells (bndC zcj).toArray 207) (.cells #[.slice (some ⟨w.heap.size+1,0,none⟩) 5 5] 294) (.cells #[.func (.func 194) #[] #[.pointer (some ⟨w.heap.size+1+1,0,none⟩)]] 138) (.cells (ints (natsI szF)).toArray 3)
 refine qYp (zv rfl _ _ w.heap.size 0 [.int .i64 6,.slice (some ⟨w.heap.size+1+1+1+1,0,none⟩) 13 13,.func (.func 296) #[] #[],.func (.func 297) #[] #[.pointer (some ⟨w.heap.size+1+1+1,0,none⟩)],.func (.func 299) #[] #[]] _ rfl (zg h1) underlying355 rfl JV) rfl
  ⟨w.heap.size+1+1+1+1,w.heap.size+1+1+1,rfl,⟨zg h5,_,za h4 0,w.heap.size+1+1,w.heap.size+1,5,rfl,za h3 0,zg h2⟩,Upd.below h7⟩
theorem wP{P:Prop}(h:P:=by
 have H:=qqh hN;have HC:=qqh hb;clear hN hb;have hr:((w.alloc (.cells #[.int .i64 (k:Int),.slice (some ⟨gs,0,none⟩) m cl,tv,.func (.func fm) #[] cm,.func (.func fb) #[] cb] n1u)).alloc (.cells (bkC b).toArray 60)).rangeAt (w.heap.size+1) 0 (bkC b):=zg (zc _ _ oe);go_enter q2u,q3u
 go_wp2_with (first
  |(refine qYy rfl _ _ rfl _ _ rfl _ _ (qYi (qYi hr _) _) underlying60 rfl (zq _ HC.o) ?_)
  |fail)
 show Calls _ _ _ ((((w.alloc (.cells #[.int .i64 (k:Int),.slice (some ⟨gs,0,none⟩) m cl,tv,.func (.func fm) #[] cm,.func (.func fb) #[] cb] n1u)).alloc (.cells (bkC b).toArray 60)).alloc (.cells zL.toArray n4u)).alloc (.cells zL.toArray n4u)) _;obtain⟨Z,hZ⟩:∃Z:List Value,Z=zL:=⟨_,rfl⟩
 rw[<-hZ];have hZs:Hid (Z.toArray.size=n5u):=by show _=_;rw[hZ];rfl
 have hZl:Hid (Z.length=n5u):=by show _=_;rw[hZ];rfl
 have hsZ:Hid ((prog.info? n4u).map (·.size)=some Z.length):=by show _=_;rw[hZ];exact q6u
 have hsA:Hid ((prog.info? n4u).map (·.size)=some Z.toArray.size):=by show _=_;rw[hZ];exact q6u
 have hZ1:Hid ((Z.toArray).all (·.oneCell')=true):=by show _=_;rw[hZ];exact qR
 have HZ:=qqh hZ;clear hZ;obtain⟨h1,h2,h3,h4,h5,h6⟩:=xw w (.cells #[.int .i64 (k:Int),.slice (some ⟨gs,0,none⟩) m cl,tv,.func (.func fm) #[] cm,.func (.func fb) #[] cb] n1u) (.cells (bkC b).toArray 60) (.cells Z.toArray n4u) (.cells Z.toArray n4u);clear hr;generalize (((w.alloc (.cells #[.int .i64 (k:Int),.slice (some ⟨gs,0,none⟩) m cl,tv,.func (.func fm) #[] cm,.func (.func fb) #[] cb] n1u)).alloc (.cells (bkC b).toArray 60)).alloc (.cells Z.toArray n4u)).alloc (.cells Z.toArray n4u)=w4 at*;refine(qn b HC.o (H.o.keep h6 id)).mono ?_;rintro e w5 ⟨rfl,hb5⟩;have hu5:=qqb hb5;have g1:=(hu5.block _ (zd h1) id).trans h1;have g2:=(hu5.block _ (zd h2) id).trans h2;have g3:=(hu5.block _ (zd h3) id).trans h3;have g4:=(hu5.block _ (zd h4) id).trans h4;have hz5:=hu5.size;have H5:=Y7 g1 g2 g3 g4 (h6.trans hu5) h5 hz5;clear h1 h2 h3 h4 h5 h6 g1 g2 g3 g4 hu5 hb5 hz5;have hsc:sealedC b=13:=if_neg hsl;rw[hsc];clear hsc hsl;obtain⟨g1,g2,g3,g4,u5,z4,z5⟩:=H5.o;have r4:=zg g4;have hth:w5.there (w.heap.size+1+1) 0 n5u:=fun j hj=>by
  rw[za g3,zf g3];exact⟨by rw[qXx,qxe jH];rfl,rfl⟩
 have HU:=qqh u5;clear g1 g2 g3 g4 u5 z4 z5;go_wp2_with (first
  |(refine qYy rfl _ _ rfl _ _ rfl _ _ r4 q7u rfl hsZ.out ?_)
  |(refine qZa rfl _ _ _ rfl _ _ Z.toArray rfl rfl (by rw[hZs.out];exact hth) hsA.out hZ1.out ?_)
  |fail)
 refine qYp (zp rfl _ _ (w.heap.size+1+1) 0 Z _ rfl (qYk _ _ _ _ (by first|(rw[hZs.out];exact hth)|(rw[hZl.out];exact hth))) q7u rfl hsZ.out) rfl
  ⟨⟨_,fun h=>(nomatch h),fun _=>rfl,by rw[HZ.o];rfl⟩,zj (Upd.below HU.o) (zo w5 (w.heap.size+1+1) 0 _) (qXo _) (fun k e=>oM)⟩):P:=h
theorem wQ{P:Prop}(h:P:=by
 have HN:=qqh hN;have Hb:=qqh hb;clear hN hb;go_enter q8u,q9u
 go_wp2_with fail
 change Code.wp _ _ _ _ ((w.alloc (.cells (bkC b).toArray 60)).alloc (.cells zL.toArray n4u))
 have hr:((w.alloc (.cells (bkC b).toArray 60)).alloc (.cells zL.toArray n4u)).rangeAt w.heap.size 0 (bkC b):=qYi (zg (zc w _ rfl)) _;have hg:((w.alloc (.cells (bkC b).toArray 60)).alloc (.cells zL.toArray n4u)).heap[w.heap.size+1]?=some (.cells zL.toArray n4u):=zc _ _ oe;have hu:Upd (fun _=>False) w ((w.alloc (.cells (bkC b).toArray 60)).alloc (.cells zL.toArray n4u)):=((uur _ w).alloc _).alloc _;generalize (w.alloc (.cells (bkC b).toArray 60)).alloc (.cells zL.toArray n4u)=w2 at*;have hb2:Below w.heap.size w w2:=Upd.below hu;refine qZb (S:=fun W=>W.rangeAt w.heap.size 0 (bkC b)) kR oE (fun hHeld=>?_);refine Wl.l 1 (fun w h=>h) underlying60 (zq _ Hb.out) hHeld ?_;refine Wl.r 0 (fun K hK=>?_);go_simp
 refine(zag _).mono ?_;rintro e w3 ⟨gs,gt,rfl,hF,hb3⟩;have hb3':Below w2.heap.size w2 w3:=yv hb3;refine hK.o _ _ (Below.range hb3 hHeld) (fun hHeld2=>?_);clear hK K;refine Wl.r 2 (fun K hK=>?_);go_simp
 refine(zah b Hb.out hsl zai n5u gs n5u _ _ _ _ _ ((HN.o.keep hu id).below hb3')).mono ?_;rintro e w4 ⟨⟨rs,hr1,hr2,rfl⟩,hb4⟩;have hb4':Below w2.heap.size w2 w4:=hb3'.trans (hb4.mono hb3'.size);have hg4:=(hb4'.block _ (zd hg)).trans hg;have hth:w4.there (w.heap.size+1) 0 n5u:=fun j hj=>by
  rw[za hg4,zf hg4];exact⟨by rw[qXx,qxe (by simpa[zL]using hj)];rfl,rfl⟩
 have hrl:rs.length=n5u/\∀v∈rs,v.oneCell'=true:=by rw[hr2 rfl];exact⟨rfl,wv⟩
 have HR2:Hid (rs=zL):=hr2 rfl;clear hr1 hr2;have hst:w4.there (w.heap.size+1) 0 rs.toArray.size:=by rw[show rs.toArray.size=n5u by simpa using hrl.1];exact hth
 have hst2:w4.there (w.heap.size+1) 0 rs.length:=by rw[hrl.1];exact hth
 have hsz2:(prog.info? n4u).map (·.size)=some rs.toArray.size:=by rw[show rs.toArray.size=n5u by simpa using hrl.1];exact q6u
 have hsz3:(prog.info? n4u).map (·.size)=some rs.length:=by rw[hrl.1];exact q6u
 have hU5:Below w.heap.size w (w4.setCells (w.heap.size+1) 0 rs):=zj (hb2.trans (hb4'.mono hu.size)) (zo w4 (w.heap.size+1) 0 _) (qXo _) (fun k e=>oM);refine hK.o _ _ (Below.range hb4 hHeld2) (fun hHeld3=>?_);clear hK K;refine Wl.i [3,4] ?_;iterate 2 refine Wl.t hHeld3 ?_
 refine Wl.o ?_;refine Wl.r 5 (fun K hK=>?_);rw[if_pos oy];refine qZc _ _ _ rfl _ _ (List.toArray _) rfl rfl (hst) (hsz2) (qYn hrl.2) ?_;simp only[Act.put,qXd];refine hK.o _ _ ((zo w4 (w.heap.size+1) 0 rs).range hHeld3 oM) (fun hHeld4=>?_);clear hK K;refine Wl.r 6 (fun K hK=>?_);go_simp
 refine hK.o _ _ (hHeld4) (fun _=>?_);clear hK K;refine Wl.d ?_;have HE:=Y4 hU5 hst2 hsz3 HR2;clear hst hst2 hsz2 hsz3 hU5 hth hg4 hb4 hb4' hb3 hb3' hHeld hHeld2 hHeld3 hHeld4 hF hr hg hu hb2 hrl;go_wp2
 exact qYp (zp rfl _ _ (w.heap.size+1) 0 rs _ rfl (qYk _ _ _ _ HE.o.2.1) q7u rfl HE.o.2.2.1) rfl ⟨⟨rs,fun h=>(nomatch h),fun _=>HE.o.2.2.2.out,rfl⟩,HE.o.1⟩):P:=h
namespace fUnI
def zL:List Value:=[Value.int .i64 0,.int .i64 0,.int .i64 0,.int .i64 0]
theorem qR:(zL.toArray).all (·.oneCell')=true:=by simp[zL,Value.oneCell']
theorem wv:∀v∈zL,v.oneCell'=true:=by intro v hv;simp[zL]at hv;subst hv;rfl
end fUnI
namespace fUnI
abbrev n1u:Nat:=341
theorem q2u:type_of% @func219:= @func219
theorem q3u:type_of% @ntmps219:= @ntmps219
abbrev n4u:Nat:=117
abbrev n5u:Nat:=4
theorem q6u:type_of% @uS:= @uS
theorem q7u:type_of% @underlying117:= @underlying117
end fUnI
open fUnI in
theorem VF{w:World}(b:Bk)(hb:b.length=64)(hsl:sealB b≠b)(k m gs cl:Nat)(fm fb:Nat)(cm cb:Array Value)(tv:Value)(hN:Nib w):
  Calls prog 219 #[.agg #[.int .i64 (k:Int),.slice (some ⟨gs,0,none⟩) m cl,tv,.func (.func fm) #[] cm,.func (.func fb) #[] cb],.agg (bkC b).toArray] w
   (yo w false [] zL 13):=wP
namespace fUnI
theorem q8u:type_of% @func149:= @func149
theorem q9u:type_of% @ntmps149:= @ntmps149
theorem zag:type_of% @tB:= @tB
theorem zah:type_of% @VF:= @VF
abbrev zai:Nat:=4
end fUnI
open fUnI in
theorem VG{w:World}(hN:Nib w)(b:Bk)(hb:b.length=64)(hsl:sealB b≠b):
  Calls prog 149 #[.agg (bkC b).toArray] w (yo w false [] zL 13):=wQ
namespace fUnT
def zL:List Value:=[Value.int .i64 0,.int .i64 0,.int .i64 0,.int .i64 0,.int .i64 0,.int .i64 0]
theorem qR:(zL.toArray).all (·.oneCell')=true:=by simp[zL,Value.oneCell']
theorem wv:∀v∈zL,v.oneCell'=true:=by intro v hv;simp[zL]at hv;subst hv;rfl
end fUnT
namespace fUnT
abbrev n1u:Nat:=348
theorem q2u:type_of% @func222:= @func222
theorem q3u:type_of% @ntmps222:= @ntmps222
abbrev n4u:Nat:=187
abbrev n5u:Nat:=6
theorem q6u:type_of% @Qs:= @Qs
theorem q7u:type_of% @underlying187:= @underlying187
end fUnT
open fUnT in
theorem VH{w:World}(b:Bk)(hb:b.length=64)(hsl:sealB b≠b)(k m gs cl:Nat)(fm fb:Nat)(cm cb:Array Value)(tv:Value)(hN:Nib w):
  Calls prog 222 #[.agg #[.int .i64 (k:Int),.slice (some ⟨gs,0,none⟩) m cl,tv,.func (.func fm) #[] cm,.func (.func fb) #[] cb],.agg (bkC b).toArray] w
   (yo w false [] zL 13):=wP
namespace fUnT
theorem q8u:type_of% @func153:= @func153
theorem q9u:type_of% @ntmps153:= @ntmps153
theorem zag:type_of% @sE:= @sE
theorem zah:type_of% @VH:= @VH
abbrev zai:Nat:=5
end fUnT
open fUnT in
theorem VI{w:World}(hN:Nib w)(b:Bk)(hb:b.length=64)(hsl:sealB b≠b):
  Calls prog 153 #[.agg (bkC b).toArray] w (yo w false [] zL 13):=wQ
namespace fUnF
def zL:List Value:=[Value.int .i64 0,.int .i64 0,.int .i64 0,.int .i64 0,.int .i64 0,.int .i64 0,.int .i64 0,.int .i64 0,.int .i64 0,.int .i64 0,.int .i64 0,.int .i64 0,.int .i64 0]
theorem qR:(zL.toArray).all (·.oneCell')=true:=by simp[zL,Value.oneCell']
theorem wv:∀v∈zL,v.oneCell'=true:=by intro v hv;simp[zL]at hv;subst hv;rfl
end fUnF
namespace fUnF
abbrev n1u:Nat:=355
theorem q2u:type_of% @func225:= @func225
theorem q3u:type_of% @ntmps225:= @ntmps225
abbrev n4u:Nat:=192
abbrev n5u:Nat:=13
theorem q6u:type_of% @Qt:= @Qt
theorem q7u:type_of% @underlying192:= @underlying192
end fUnF
open fUnF in
theorem VJ{w:World}(b:Bk)(hb:b.length=64)(hsl:sealB b≠b)(k m gs cl:Nat)(fm fb:Nat)(cm cb:Array Value)(tv:Value)(hN:Nib w):
  Calls prog 225 #[.agg #[.int .i64 (k:Int),.slice (some ⟨gs,0,none⟩) m cl,tv,.func (.func fm) #[] cm,.func (.func fb) #[] cb],.agg (bkC b).toArray] w
   (yo w false [] zL 13):=wP
namespace fUnF
theorem q8u:type_of% @func157:= @func157
theorem q9u:type_of% @ntmps157:= @ntmps157
theorem zag:type_of% @uu:= @uu
theorem zah:type_of% @VJ:= @VJ
abbrev zai:Nat:=6
end fUnF
open fUnF in
theorem VK{w:World}(hN:Nib w)(b:Bk)(hb:b.length=64)(hsl:sealB b≠b):
  Calls prog 157 #[.agg (bkC b).toArray] w (yo w false [] zL 13):=wQ
end Go.Proofs.YtpejdgiccaijfaaGreatDoor
