/- The clock: steps of its state; Add, Drop. Slot -/
import Derived.Test.YtfhfbpmlnjdfoaaGreatDoorG05
import Derived.Laws.CopyRow
import Derived.Shelf.Bits.Mul64
set_option maxRecDepth 100000
set_option maxHeartbeats 1000000
namespace Go.Proofs.YtfhfbpmlnjdfoaaGreatDoor
open Go Go.RowKit
section
variable{w w' w2:World}{b mb N most few:Nat}{vk vg v2:Value}{K G K' G':List Int}{A A':Int->Bool}
theorem CkMem.c(h:CkMem w b mb N vk vg most few K A G):w.cell? ⟨b,0,none⟩=some (.int .i64 most)/\w.cell? ⟨b,1,none⟩=some (.int .i64 few)/\w.cell? ⟨b,2,none⟩=some vk/\
  w.cell? ⟨b,3,none⟩=some (.map (some mb))/\w.cell? ⟨b,4,none⟩=some vg:=by
 refine⟨?_,?_,?_,?_,?_⟩<;>rw[za h.str]<;>rfl
theorem CkMem.fz(h:CkMem w b mb N vk vg most few K A G)(i:Nat):w.frozen? ⟨b,i,none⟩=false:=zf h.str i
theorem vK{w:World}{v v':Value}{x:Nat}(h:blockFrom w v v')(hv:v.ownBlock≠some x)(hx:x<w.heap.size):v'.ownBlock≠some x:=by
 intro e;rcases h with h|⟨g,h,hg⟩
 .exact hv (by rw[<-h,e])
 .rw [h]at e;cases e;omega
theorem CkMem.setKeys(h:CkMem w b mb N vk vg most few K A G)(hu:Upd (ownS vk) w w2)(h2:Sl w2 3 1 v2 K'.length (ints K'))(hbf:blockFrom w vk v2):
  CkMem (w2.setCell ⟨b,2,none⟩ v2) b mb N v2 vg most few K' A G:=by
 have hb2:v2.ownBlock≠some b:=vK hbf h.kb (zd h.str);have hm2:v2.ownBlock≠some mb:=vK hbf h.km h.set.lt;have hstr:w2.heap[b]?=_:=(hu.block b (zd h.str) (fun e=>h.kb e)).trans h.str;exact{
  str:=zh hstr 2 v2
  ks:=h2.keep_ne (zi _ _ _ _) hb2
  gs:=(h.gs.keep_dis h.kg.symm hu).keep_ne (zi _ _ _ _) h.gb
  set:=(h.set.keep hu (fun e=>h.km e)).keep (zi _ _ _ _) h.bm
  kb:=hb2
  gb:=h.gb
  km:=hm2
  gm:=h.gm
  bm:=h.bm
  kg:=h.kg.from hbf (fun g hg=>h.gs.lt hg)}
theorem CkMem.updKeys(_:CkMem w b mb N vk vg most few K A G)(hu:Upd (ownS vk) w w2):Upd (US b mb vk vg) w (w2.setCell ⟨b,2,none⟩ v2):=
 (hu.mono (fun _k _ hk=> .inr (.inr (.inl hk)))).trans (Upd.mono (zi _ _ _ _) (fun _k _ hk=> .inl hk))
theorem CkMem.setGhosts(h:CkMem w b mb N vk vg most few K A G)(hu:Upd (ownS vg) w w2)(h2:Sl w2 3 1 v2 G'.length (ints G'))(hbf:blockFrom w vg v2):
  CkMem (w2.setCell ⟨b,4,none⟩ v2) b mb N vk v2 most few K A G':=by
 have hb2:v2.ownBlock≠some b:=vK hbf h.gb (zd h.str);have hm2:v2.ownBlock≠some mb:=vK hbf h.gm h.set.lt;have hstr:w2.heap[b]?=_:=(hu.block b (zd h.str) (fun e=>h.gb e)).trans h.str;exact{
  str:=zh hstr 4 v2
  ks:=(h.ks.keep_dis h.kg hu).keep_ne (zi _ _ _ _) h.kb
  gs:=h2.keep_ne (zi _ _ _ _) hb2
  set:=(h.set.keep hu (fun e=>h.gm e)).keep (zi _ _ _ _) h.bm
  kb:=h.kb
  gb:=hb2
  km:=h.km
  gm:=hm2
  bm:=h.bm
  kg:=(h.kg.symm.from hbf (fun g hg=>h.ks.lt hg)).symm}
theorem CkMem.updGhosts(_:CkMem w b mb N vk vg most few K A G)(hu:Upd (ownS vg) w w2):Upd (US b mb vk vg) w (w2.setCell ⟨b,4,none⟩ v2):=
 (hu.mono (fun _k _ hk=> .inr (.inr (.inr hk)))).trans (Upd.mono (zi _ _ _ _) (fun _k _ hk=> .inl hk))
theorem CkMem.setAsked(h:CkMem w b mb N vk vg most few K A G){N':Nat}(hu:Upd (fun j=>j=mb) w w2)(h2:SetAt w2 mb N' A'):CkMem w2 b mb N' vk vg most few K A' G:=
 {h with
  str:=(hu.block b (zd h.str) h.bm.symm).trans h.str
  ks:=h.ks.keep hu (fun g hg e=>h.km (by rw[hg,e]))
  gs:=h.gs.keep hu (fun g hg e=>h.gm (by rw[hg,e]))
  set:=h2}
end
def Ck(S:Nat->Prop)(w:World)(b N most few:Nat)(K:List Int)(A:Int->Bool)(G:List Int):Prop:=
 ∃mb vk vg,CkAt w b mb N vk vg most few K A G/\∀j,US b mb vk vg j->S j
section
variable{S:Nat->Prop}{w w' w2:World}{b N most few:Nat}{K G:List Int}{A:Int->Bool}
theorem Ck.keep(h:Ck S w b N most few K A G){T:Nat->Prop}(hu:Upd T w w')(hs:∀j,S j->¬T j):Ck S w' b N most few K A G:=by
 obtain⟨mb,vk,vg,h,hS⟩:=h;exact⟨mb,vk,vg,h.keep hu (fun j hj=>hs j (hS j hj)),hS⟩
theorem Ck.new(h:Ck S w b N most few K A G)(hu:Upd (fun _=>False) w w'):Ck S w' b N most few K A G:=h.keep hu (fun _ _ h=>h)
theorem Ck.below(h:Ck S w b N most few K A G)(hb:Below w.heap.size w w'):Ck S w' b N most few K A G:=h.new (uuo hb)
theorem Ck.mono(h:Ck S w b N most few K A G){N':Nat}(hn:N<=N'):Ck S w b N' most few K A G:=by
 obtain⟨mb,vk,vg,h,hS⟩:=h;exact⟨mb,vk,vg,h.mono hn,hS⟩
theorem Ck.out(h:Ck S w b N most few K A G){S':Nat->Prop}(hs:∀j,j<w.heap.size->S j->S' j):Ck S' w b N most few K A G:=by
 obtain⟨mb,vk,vg,h,hS⟩:=h;exact⟨mb,vk,vg,h,fun j hj=>hs j (h.slt j hj) (hS j hj)⟩
end
theorem uV{l:List Int}{k:Int}{i:Nat}(hi:i<l.length)(he:l[i]=k)(hb:∀j (h:j<l.length),j<i->l[j]≠k):l.eraseIdx i=l.erase k:=by
 induction l generalizing i with
 |nil=>simp at hi
 |cons x l ih=>
  cases i with
  |zero=>
   have he':x=k:=he;subst he';simp
  |succ i=>
   have hx:x≠k:=hb 0 (by simp) (by omega);rw[List.eraseIdx_cons_succ,List.erase_cons_tail (by simpa using hx),ih (by simpa using hi) (by simpa using he) (fun j hj hji=>hb (j+1) (by simpa using hj) (by omega))]
def addC(most:Nat)(K:List Int)(k:Int):Int:=if k∈K then 15 else if K.length=most then 17 else 0
def Xd(most:Nat)(K:List Int)(k:Int):List Int:=if k∈K\/K.length=most then K else K++[k]
def agA(A:Int->Bool)(G:List Int)(k:Int):Int->Bool:=if k∈G then updB A k true else A
def UT(most:Nat)(K:List Int)(A:Int->Bool)(G:List Int)(k:Int):Int->Bool:=if k∈K\/K.length=most then A else agA A G k
def UU(most:Nat)(K:List Int)(G:List Int)(k:Int):List Int:=if k∈K\/K.length=most then G else G.erase k
section
variable{most few:Nat}{K G:List Int}{A:Int->Bool}
theorem CkGood.push(h:CkGood most few K A G){k:Int}(hk:k∉K)(hl:K.length≠most)(hG:k∉G)(hr:InR k):CkGood most few (K++[k]) A G:={
 kr:=by intro x hx;rcases qzq.1 hx with h1|h1;exact h.kr x h1;simp at h1;exact h1▸hr
 gr:=h.gr
 kd:=by rw[qXa];exact⟨h.kd,by simp,by intro x hx y hy e;simp at hy;subst hy;exact hk (e▸hx)⟩
 gd:=h.gd
 dis:=by intro x hx;rcases qzq.1 hx with h1|h1;exact h.dis x h1;simp at h1;exact h1▸hG
 ask:=fun x hx=>qzq.2 (.inl (h.ask x hx))
 kl:=by have:=h.kl;simp;omega
 gl:=h.gl
 ml:=h.ml
 fl:=h.fl
 m1:=h.m1}
theorem CkGood.drop(h:CkGood most few K A G)(k:Int):CkGood most few (K.erase k) (updB A k false) G:={
 kr:=fun x hx=>h.kr x (qzw hx)
 gr:=h.gr
 kd:=h.kd.erase k
 gd:=h.gd
 dis:=fun x hx=>h.dis x (qzw hx)
 ask:=fun x hx=>by
  by_cases e:x=k
  .subst e;simp[updB]at hx
  .simp only[updB,if_neg e]at hx;exact(List.mem_erase_of_ne e).2 (h.ask x hx)
 kl:=qXx (List.length_erase_le) h.kl
 gl:=h.gl
 ml:=h.ml
 fl:=h.fl
 m1:=h.m1}
theorem CkGood.erase(h:CkGood most few K A G)(k:Int):CkGood most few K A (G.erase k):={h with
 gr:=fun x hx=>h.gr x (qzw hx)
 gd:=h.gd.erase k
 dis:=fun x hx hg=>h.dis x hx (qzw hg)
 gl:=qXx (List.length_erase_le) h.gl}
end
theorem Rz{S:Nat->Prop}{w:World}{b N most few:Nat}{K G:List Int}{A:Int->Bool}(h:Ck S w b N most few K A G)(k:Int)(hk:k∈K\/K.length=most):
  Calls Tryz.prog 205 #[.pointer (some ⟨b,0,none⟩),.int .i64 k] w fun e w'=>e=.returned (.int .i64 (addC most K k))/\Below w.heap.size w w':=by
 obtain⟨mb,vk,vg,h,-⟩:=h;have HR:=qqh h.ks.rd;have hle:=h.kle;have hblt:=h.blt;obtain⟨g0,-,g2,-,-⟩:=h.c;obtain⟨ao,c,rfl⟩:=h.ks.rd.nil_iff;clear h;by_cases hkK:k∈K
 .obtain ⟨i,hi,hix,_⟩:=sH hkK;have e1:addC most K k=15:=if_pos hkK;rw[e1];clear e1 hk hkK g0;go_enter Tryz.func205,Tryz.ntmps205
  go_wp2_with fail
  refine(xf HR.o (by omega) k).mono ?_;rintro e w1 ⟨rfl,hb1⟩;rw[hix];go_wp2
  go_ret
  exact⟨rfl,hb1⟩
 .have hm:K.length=most:=hk.resolve_left hkK;have hix:=vJ hkK;have e1:addC most K k=17:=by unfold addC;rw[if_neg hkK,if_pos hm]
  rw[e1];have q:((K.length:Int)==(most:Int))=true:=by simp;omega
  clear e1 hk hkK hm;go_enter Tryz.func205,Tryz.ntmps205
  go_wp2_with fail
  refine(xf HR.o (by omega) k).mono ?_;rintro e w1 ⟨rfl,hb1⟩;rw[hix];have k0:=(hb1.cell (p:=⟨b,0,none⟩) hblt).trans g0;have k2:=(hb1.cell (p:=⟨b,2,none⟩) hblt).trans g2;go_wp2
  go_quiet(fail)
  go_wp2
  go_ret
  exact⟨rfl,zS hb1 _⟩
theorem UV{S:Nat->Prop}{w:World}{b N most few:Nat}{K G:List Int}{A:Int->Bool}(h:Ck S w b N most few K A G)(hn:∀j,w.heap.size<=j->S j)(k:Int)(hr:InR k)(hN:N<maxLen)(hk:k∉K)(hl:K.length≠most):
  Calls Tryz.prog 205 #[.pointer (some ⟨b,0,none⟩),.int .i64 k] w fun e w'=>e=.returned (.int .i64 0)/\
   Ck S w' b (N+1) most few (K++[k]) (agA A G k) (G.erase k)/\Upd S w w':=by
 obtain⟨i0,hi0,hz0,hz1,hz2⟩:=qZa wJ;obtain⟨mb,vk,vg,h,hS⟩:=h;have HN:=qqh hn;have HS:=qqh hS;have HR:=qqh h.ks.rd;have hle:=h.kle;have hgle:=h.gle;have hix:=vJ hk;have HH:=qqh h;have HK:=Y2 hk hl;obtain⟨g0,-,g2,-,-⟩:=h.c;have q:((K.length:Int)==(most:Int))=false:=by simp;omega
 clear h hk hn hS hl;go_enter Tryz.func205,Tryz.ntmps205
 go_wp2_with fail
 refine(xf HR.o (by omega) k).mono ?_;rintro e w1 ⟨rfl,hb1⟩;rw[hix];have H1:=HH.o.below hb1;have HU1:=qqh (uuo (S:=S) hb1);clear g0 g2 HR;obtain⟨g0,-,g2,-,-⟩:=H1.c;obtain⟨ao,c,hvk⟩:=H1.ks.rd.nil_iff;have HV:=qqh hvk;rw[hvk]at g2;have H1:=qqh H1;clear hvk hb1 HH;go_wp2
 go_quiet(fail)
 generalize hw2:w1.drewN nq=w2;have hu2:Upd (fun _=>False) w1 w2:=by rw[<-hw2];exact(uur _ _).drewN nq
 have H2:=H1.o.keep hu2 (fun _ _ h=>h);have HU2:=qqh (HU1.o.trans (hu2.mono (fun _ _ h=>h.elim)));clear hw2 hu2 g0 g2;obtain⟨-,-,g2,-,-⟩:=H2.c;have H2:=qqh H2;go_wp2_with (at_builtin;refine zP rfl _ _ 87 rfl i0 (.int .i64 0) 8 Tryz.underlying87 hi0 hz0 hz1 hz2 rfl (by decide) rfl H2.o.ks [.int .i64 k] rfl rfl (by intro u hu;simp at hu;subst hu;rfl) (by unfold maxLen;omega) (by omega) ?_)
 intro v3 w3 hs3 hu3 hbf3;obtain⟨ao3,p3,rfl⟩:=hs3.rd.nil_iff;have hgood:Hid (∀(hG:k∉G),CkGood most few (K++[k]) A G):=fun hG=>H2.o.good.push HK.o.1 HK.o.2 hG hr;have hs3':Sl w3 3 1 (.slice ao3 (K.length+1) p3) (K++[k]).length (ints (K++[k])):=by simpa using hs3
 have hstr3:=(hu3.block b H2.o.blt (fun e=>H2.o.kb e)).trans H2.o.str;have c2:=za hstr3 2;have c4:=za hstr3 4;have f2:=zf hstr3 2;simp at c2 c4;have HG3:=qqh (H2.o.gs.keep_dis H2.o.kg.symm hu3);have HG4:=qqh ((HG3.o.keep_ne (zi w3 b 2 (.slice ao3 (K.length+1) p3)) H2.o.gb).rd);have S3:=Y4 hs3' hu3 hbf3 hstr3;clear hs3 hs3' hu3 hbf3 hstr3;go_wp2_with fail
 refine(xf HG4.o (by omega) k).mono ?_;rintro e w4 ⟨rfl,hb4⟩;have HB4:=qqh hb4;have HU4:Hid (Upd S w w4):=(HU2.o.trans ((CkMem.updKeys (v2:=.slice ao3 (K.length+1) p3) H2.o.toCkMem S3.out.2.1).mono (fun j _ hj=>HS.o j hj))).trans (uuo hb4);have hM:CkMem w4 b mb N (.slice ao3 (K.length+1) p3) vg most few (K++[k]) A G:=(H2.o.toCkMem.setKeys S3.out.2.1 S3.out.1 S3.out.2.2.1).below hb4;have hz1:w.heap.size<=w4.heap.size:=HU4.o.size;have hS4:Hid (∀j,US b mb (.slice ao3 (K.length+1) p3) vg j->S j):=by
  intro j hj;rcases hj with h1|h1|h1|h1
  .exact HS.o j (.inl h1)
  .exact HS.o j (.inr (.inl h1))
  .rcases S3.out.2.2.1 with h2|⟨g,h2,h3⟩
   .exact HS.o j (.inr (.inr (.inl (by rw[<-h2];exact h1))))
   .rw [h2]at h1;cases h1;exact HN.o _ (qXx HU2.o.size h3)
  .exact HS.o j (.inr (.inr (.inr h1)))
 have HM:=qqh hM;clear hb4 c2 c4 f2 HG3 HG4 hM;by_cases hG:k∈G
 .obtain ⟨i,hi,hie,hiv,hib⟩:=sH hG;rw[hie];have HE:Hid (G.eraseIdx i=G.erase k):=uV hi hiv hib;have c4:=za HM.o.str 4;simp at c4;have HGG:=qqh hG;clear hie hiv hib hG;go_wp2_with fail
  refine(sG HM.o.gs (by omega) hi).mono ?_;rintro e w5 ⟨v5,rfl,hbe,hs5,hu5⟩;obtain⟨ao5,p5,rfl⟩:=hs5.rd.nil_iff;have hM5:=HM.o.setGhosts hu5 hs5 (.inl hbe);have hU5:=HM.o.updGhosts (v2:=.slice ao5 (G.eraseIdx i).length p5) hu5;have hstr5:=(hu5.block b (zd HM.o.str) (fun e=>HM.o.gb e)).trans HM.o.str;have c4:=za hstr5 4;have c3:=za hstr5 3;have f4:=zf hstr5 4;simp at c4 c3;obtain⟨w6,hrun,hs6,hu6,hz6⟩:=SetAt.store hM5.set (x:=k) hr hN;have HM6:=qqh (hM5.setAsked hu6 hs6);have HU6:Hid (Upd S w w6):=(HU4.o.trans (hU5.mono (fun j _ hj=>hS4.out j hj))).trans (hu6.mono (fun j _ hj=>by subst hj;exact hS4.out _ (.inr (.inl rfl))));have HB:Hid ((Value.slice ao5 (G.eraseIdx i).length p5).ownBlock=vg.ownBlock):=hbe;clear hM5 hU5 hstr5 hs6 hu6 hz6 hs5 hu5 hbe;go_wp2
  go_ret
  have hgd:CkGood most few (K++[k]) (agA A G k) (G.erase k):=by
   have h1:=(H2.o.good.erase k).push HK.o.1 HK.o.2 (fun e=>absurd e H2.o.good.gd.not_mem_erase) hr;unfold agA;rw[if_pos HGG.o];exact h1.touch (by simp)
  refine⟨rfl,⟨mb,.slice ao3 (K.length+1) p3,.slice ao5 (G.erase k).length p5,⟨?_,hgd⟩,?_⟩,HU6.o⟩
  .have:=HM6.o;rw[HE.o]at this;unfold agA;rw[if_pos HGG.o];exact this
  .intro j hj;rcases hj with h1|h1|h1|h1
   .exact hS4.out j (.inl h1)
   .exact hS4.out j (.inr (.inl h1))
   .exact hS4.out j (.inr (.inr (.inl h1)))
   .exact hS4.out j (.inr (.inr (.inr (by rw[<-HB.o,HE.o];exact h1))))
 .rw [vJ hG];have HF:Hid (agA A G k=A/\G.erase k=G/\CkGood most few (K++[k]) A G):=⟨if_neg hG,List.erase_of_not_mem hG,hgood.out hG⟩
  clear hG;go_wp2
  go_ret
  rw[HF.o.1,HF.o.2.1];exact⟨rfl,⟨mb,_,vg,CkAt.mono ⟨HM.o,HF.o.2.2⟩ (by omega),hS4.out⟩,HU4.o⟩
theorem UW{S:Nat->Prop}{w:World}{b N most few:Nat}{K G:List Int}{A:Int->Bool}(h:Ck S w b N most few K A G)(hn:∀j,w.heap.size<=j->S j)(k:Int)(hr:InR k)(hN:N<maxLen):
  Calls Tryz.prog 205 #[.pointer (some ⟨b,0,none⟩),.int .i64 k] w fun e w'=>e=.returned (.int .i64 (addC most K k))/\
   Ck S w' b (N+1) most few (Xd most K k) (UT most K A G k) (UU most K G k)/\Upd S w w':=by
 by_cases hk:k∈K\/K.length=most
 .refine (Rz h k hk).mono ?_;rintro e w' ⟨rfl,hb⟩;unfold Xd UT UU;rw[if_pos hk,if_pos hk,if_pos hk];exact⟨rfl,(h.below hb).mono (by omega),uuo hb⟩
 .have h1:k∉K:=fun e=>hk (.inl e);have h2:K.length≠most:=fun e=>hk (.inr e);refine(UV h hn k hr hN h1 h2).mono ?_;rintro e w' ⟨rfl,hc,hu⟩;unfold addC Xd UT UU;rw[if_neg hk,if_neg hk,if_neg hk,if_neg h1,if_neg h2];exact⟨rfl,hc,hu⟩
def dropA(K:List Int)(A:Int->Bool)(k:Int):Int->Bool:=if k∈K then updB A k false else A
theorem Vm{S:Nat->Prop}{w:World}{b N most few:Nat}{K G:List Int}{A:Int->Bool}(h:Ck S w b N most few K A G)(k:Int):
  Calls Tryz.prog 298 #[.pointer (some ⟨b,0,none⟩),.int .i64 k] w fun e w'=>e=.returned (.int .i64 (touchC K k))/\
   Ck S w' b N most few (K.erase k) (dropA K A k) G/\Upd S w w':=by
 obtain⟨mb,vk,vg,h,hS⟩:=h;have H:=qqh h;have HS:=qqh hS;have HR:=qqh h.ks.rd;have hle:=h.kle;obtain⟨-,-,g2,g3,-⟩:=h.c;have hblt:=h.blt;clear h hS;by_cases hk:k∈K
 .obtain ⟨i,hi,hix,hiv,hib⟩:=sH hk;have e1:touchC K k=0:=if_pos hk;have e2:dropA K A k=updB A k false:=if_pos hk;rw[e1,e2];have HK:=qqh hk;have HE:Hid (K.eraseIdx i=K.erase k):=uV hi hiv hib;clear e1 e2 hk hiv hib;have q:decide ((i:Int)<0)=false:=by simp only[qYx];omega
  go_enter Tryz.func298,Tryz.ntmps298
  go_wp2_with fail
  refine(xf HR.o (by omega) k).mono ?_;rintro e w1 ⟨rfl,hb1⟩;rw[hix];have H1:=qqh (H.o.below hb1);have k2:=(hb1.cell (p:=⟨b,2,none⟩) hblt).trans g2;have B1:=qqh hb1;clear hb1 g2 g3;go_wp2_with fail
  refine(sG H1.o.ks (by omega) hi).mono ?_;rintro e w2 ⟨v2,rfl,hbe,hs2,hu2⟩;obtain⟨ao2,p2,rfl⟩:=hs2.rd.nil_iff;have hM2:=H1.o.toCkMem.setKeys hu2 hs2 (.inl hbe);have hU2:=H1.o.toCkMem.updKeys (v2:=.slice ao2 (K.eraseIdx i).length p2) hu2;have hstr2:=(hu2.block b H1.o.blt (fun e=>H1.o.kb e)).trans H1.o.str;have c2:=za hstr2 2;have c3:=za hstr2 3;have f2:=zf hstr2 2;simp at c2 c3;obtain⟨w3,hrun,hs3,hu3,hz3⟩:=SetAt.drop hM2.set (x:=k) (H1.o.good.kr k HK.o) 0;have HM3:=qqh (hM2.setAsked hu3 hs3);have HU3:Hid (Upd S w w3):=((uuo B1.out).trans (hU2.mono (fun j _ hj=>HS.o j hj))).trans (hu3.mono (fun j _ hj=>by subst hj;exact HS.o _ (.inr (.inl rfl))));have HB:Hid ((Value.slice ao2 (K.eraseIdx i).length p2).ownBlock=vk.ownBlock):=hbe;clear hM2 hU2 hstr2 hs3 hu3 hz3 hs2 hu2 hbe;go_wp2
  go_ret
  refine⟨rfl,⟨mb,.slice ao2 (K.erase k).length p2,vg,⟨?_,H1.o.good.drop k⟩,?_⟩,HU3.o⟩
  .have:=HM3.o;rw[HE.o]at this;exact this
  .intro j hj;rcases hj with h1|h1|h1|h1
   .exact HS.o j (.inl h1)
   .exact HS.o j (.inr (.inl h1))
   .exact HS.o j (.inr (.inr (.inl (by rw[<-HB.o,HE.o];exact h1))))
   .exact HS.o j (.inr (.inr (.inr h1)))
 .have hix:=vJ hk;have e1:touchC K k=14:=if_neg hk;have e2:dropA K A k=A:=if_neg hk;have e3:K.erase k=K:=List.erase_of_not_mem hk;rw[e1,e2,e3];clear e1 e2 e3 hk g3;go_enter Tryz.func298,Tryz.ntmps298
  go_wp2_with fail
  refine(xf HR.o (by omega) k).mono ?_;rintro e w1 ⟨rfl,hb1⟩;rw[hix];go_wp2
  go_ret
  exact⟨rfl,⟨mb,vk,vg,H.o.below hb1,HS.o⟩,uuo hb1⟩
theorem Vn{S:Nat->Prop}{w:World}{b N most few:Nat}{K G:List Int}{A:Int->Bool}(h:Ck S w b N most few K A G)(k:Int)(hN:N<maxLen):
  Calls Tryz.prog 325 #[.pointer (some ⟨b,0,none⟩),.int .i64 k] w fun e w'=>e=.returned (.int .i64 (touchC K k))/\
   Ck S w' b (N+1) most few K (agA A K k) G/\Upd S w w':=by
 obtain⟨mb,vk,vg,h,hS⟩:=h;refine(Xc h k hN).mono ?_;rintro e w' ⟨rfl,hc,hu⟩;exact⟨rfl,⟨mb,vk,vg,hc,hS⟩,hu.mono (fun j _ hj=>by subst hj;exact hS _ (.inr (.inl rfl)))⟩
theorem RB{S:Nat->Prop}(m f:Nat)(w:World)(h1:1<=m)(h2:m<=1024)(h3:f<=1024)(hn:∀j,w.heap.size<=j->S j):
  Calls Tryz.prog 135 #[.int .i64 m,.int .i64 f] w fun e w'=>∃b,e=.returned (.tuple #[.pointer (some ⟨b,0,none⟩),.int .i64 0])/\
   Ck S w' b 0 m f [] (fun _=>false) []/\w.heap.size<=b/\Below w.heap.size w w':=by
 refine(Ry m f w h1 h2 h3).mono ?_;rintro e w' ⟨b,mb,rfl,hc,hb,hmb,hB⟩;refine⟨b,rfl,⟨mb,_,_,hc,?_⟩,hb,hB⟩;rintro j (rfl|rfl|hj|hj)
 .exact hn _ hb
 .exact hn _ hmb
 .cases hj
 .cases hj
structure Tur(w:World):Prop where
 c0:w.cell? ⟨1,0,none⟩=some (.int .i64 2)
 c1:w.cell? ⟨1,1,none⟩=some (.int .i64 28)
 c2:w.cell? ⟨1,2,none⟩=some (.int .i64 24)
 c3:w.cell? ⟨1,3,none⟩=some (.int .i64 17)
 c4:w.cell? ⟨1,4,none⟩=some (.int .i64 0)
theorem Tur.lt{w:World}(h:Tur w):1<w.heap.size:=(zL h.c0).2
theorem Tur.keep{w w':World}(h:Tur w){S:Nat->Prop}(hu:Upd S w w')(hs:¬S 1):Tur w':=
 ⟨(hu.cellAt h.lt hs).trans h.c0,(hu.cellAt h.lt hs).trans h.c1,(hu.cellAt h.lt hs).trans h.c2,(hu.cellAt h.lt hs).trans h.c3,(hu.cellAt h.lt hs).trans h.c4⟩
theorem Tur.below{w w':World}(h:Tur w)(hb:Below w.heap.size w w'):Tur w':=h.keep (uuo (S:=fun _=>False) hb) (fun h=>h)
def mayB(a b:Int):Bool:=
 if a=0 then b==1 else if a=1 then b==2||b==3||b==4 else if a=2 then b==3||b==4 else if a=3 then b==0||b==4 else false
def stateB(a:Int):Bool:=decide (0<=a)&&decide (a<=4)
theorem yF(a:Int)(w:World):Calls Tryz.prog 248 #[.int .i64 a] w fun e w'=>e=.returned (.bool (stateB a))/\w'=w:=by
 by_cases h1:0<=a
 .by_cases h2:a<=4
  .go_enter Tryz.func248,Tryz.ntmps248
   go_wp2
   go_ret
   exact⟨by simp[stateB,h1,h2],rfl⟩
  .go_enter Tryz.func248,Tryz.ntmps248
   go_wp2
   go_ret
   exact⟨by simp[stateB,h1,h2],rfl⟩
 .go_enter Tryz.func248,Tryz.ntmps248
  go_wp2
  go_ret
  exact⟨by simp[stateB];omega,rfl⟩
theorem Wm(a b:Int)(h:¬(0<=a/\a<=4)\/¬(0<=b/\b<=4)):mayB a b=false:=by
 unfold mayB
 repeat' split
 all_goals first|rfl|(simp;omega)
theorem Wn(a b:Int)(w:World)(ht:Tur w):Calls Tryz.prog 249 #[.int .i64 a,.int .i64 b] w fun e w'=>e=.returned (.bool (mayB a b))/\w'=w:=by
 by_cases ha:0<=a/\a<=4
 .by_cases hb:0<=b/\b<=4
  .obtain ⟨c0,c1,c2,c3,c4⟩:=ht;have ha':a=0\/a=1\/a=2\/a=3\/a=4:=by omega
   have hb':b=0\/b=1\/b=2\/b=3\/b=4:=by omega
   clear ha hb;rcases ha' with rfl|rfl|rfl|rfl|rfl<;>rcases hb' with rfl|rfl|rfl|rfl|rfl
   all_goals
    go_enter Tryz.func249,Tryz.ntmps249
    go_wp2
    go_ret
    exact⟨rfl,rfl⟩
  .rw [Wm a b (.inr hb)];have hs:stateB a=true:=by simp[stateB,ha]
   have hs2:stateB b=false:=by simp[stateB];omega
   clear ht ha hb;go_enter Tryz.func249,Tryz.ntmps249
   go_wp2_with fail
   refine(yF a _).mono ?_;rintro e w' ⟨rfl,rfl⟩;rw[hs];go_wp2_with fail
   refine(yF b _).mono ?_;rintro e w' ⟨rfl,rfl⟩;rw[hs2];go_wp2
   go_ret
   exact⟨rfl,rfl⟩
 .rw [Wm a b (.inl ha)];have hs:stateB a=false:=by simp[stateB];omega
  clear ht ha;go_enter Tryz.func249,Tryz.ntmps249
  go_wp2_with fail
  refine(yF a _).mono ?_;rintro e w' ⟨rfl,rfl⟩;rw[hs];go_wp2
  go_ret
  exact⟨rfl,rfl⟩
structure SlotsAt(T:TypeId)(w:World)(b:Nat)(v:Value)(l:List Int):Prop where
 str:w.heap[b]?=some (.cells #[v] T (0,0))
 sl:Sl w 3 1 v l.length (ints l)
 ne:v.ownBlock≠some b
 le:l.length<=1024
abbrev vL(b:Nat):Value:=.pointer (some ⟨b,0,none⟩)
section
variable{T:TypeId}{w w':World}{b:Nat}{v:Value}{l:List Int}
theorem SlotsAt.keep(h:SlotsAt T w b v l){S:Nat->Prop}(hu:Upd S w w')(hb:¬S b)(hv:∀g,v.ownBlock=some g->¬S g):SlotsAt T w' b v l:=
 ⟨(hu.block b (zd h.str) hb).trans h.str,h.sl.keep hu hv,h.ne,h.le⟩
theorem SlotsAt.new(h:SlotsAt T w b v l)(hu:Upd (fun _=>False) w w'):SlotsAt T w' b v l:=h.keep hu (fun h=>h) (fun _ _ h=>h)
theorem Sl.set{e:TypeId}{g off n cap:Nat}{l:List Int}(h:Sl w e 1 (.slice (some ⟨g,off,none⟩) n cap) n (ints l))(i:Nat)(hi:i<n)(x:Int):
  Sl (w.setCell ⟨g,off+i,none⟩ (.int .i64 x)) e 1 (.slice (some ⟨g,off,none⟩) n cap) n (ints (l.set i x)):=by
 obtain⟨hl,⟨h1,_⟩|⟨g',off',cap',cur,h1,hg,hn,hm,hs,hc⟩⟩:=h
 .cases h1
 .cases h1;refine⟨by simpa using hl,.inr ⟨g,off,cap,_,rfl,zh hg _ _,hn,hm,by simpa using hs,fun j u hj=>?_⟩⟩;have hjl:j<l.length:=by have:=(qyp.1 hj).1;simpa using this
  rw[yp (by simpa using hjl)]at hj;cases hj;by_cases hji:i=j
  .subst hji;rw[Array.getElem?_setIfInBounds_self,if_pos (by omega)];simp
  .rw [qxg (by omega),List.getElem_set_ne hji];exact hc j _ (yp hjl)
theorem SlotsAt.set{g off cap:Nat}(h:SlotsAt T w b (.slice (some ⟨g,off,none⟩) l.length cap) l)(i:Nat)(hi:i<l.length)(x:Int):
  SlotsAt T (w.setCell ⟨g,off+i,none⟩ (.int .i64 x)) b (.slice (some ⟨g,off,none⟩) l.length cap) (l.set i x)/\Upd (ownS (.slice (some ⟨g,off,none⟩) l.length cap)) w (w.setCell ⟨g,off+i,none⟩ (.int .i64 x)):=by
 have hu:Upd (ownS (.slice (some ⟨g,off,none⟩) l.length cap)) w (w.setCell ⟨g,off+i,none⟩ (.int .i64 x)):=(zi w g (off+i) _).mono (fun k _ hk=>by subst hk;rfl);refine⟨⟨(hu.block b (zd h.str) (fun e=>h.ne e)).trans h.str,?_,h.ne,by simpa using h.le⟩,hu⟩;have:=h.sl.set i hi x;rw[qzj];exact this
theorem SlotsAt.at(h:SlotsAt T w b v l){i:Nat}(hi:i<l.length):∃g off cap,v=.slice (some ⟨g,off,none⟩) l.length cap/\w.cell? ⟨g,off+i,none⟩=some (.int .i64 l[i])/\w.frozen? ⟨g,off+i,none⟩=false:=by
 obtain⟨g,off,cap,cur,rfl,hg,_,hc⟩:=h.sl.at (by omega);exact⟨g,off,cap,rfl,by rw[za hg];exact hc i _ (yp hi),zf hg _⟩
end
section
variable{w:World}{b:Nat}{v:Value}{l:List Int}
theorem Vo(h:SlotsAt 327 w b v l)(slot:Int)(ho:slot<0\/(l.length:Int)<=slot):
  Calls Tryz.prog 247 #[vL b,.int .i64 slot] w fun e w'=>e=.returned (.tuple #[.int .i64 0,.int .i64 10])/\w'=w:=by
 have hc0:=za h.str 0;simp at hc0;have hle:=h.le;obtain⟨ao,c,rfl⟩:=h.sl.rd.nil_iff;clear h;by_cases h0:slot<0
 .clear ho;go_enter Tryz.func247,Tryz.ntmps247
  go_wp2
  go_ret2
  exact⟨rfl,rfl⟩
 .have h1:(l.length:Int)<=slot:=by omega
  clear ho;go_enter Tryz.func247,Tryz.ntmps247
  go_wp2
  go_ret2
  exact⟨rfl,rfl⟩
theorem tP(h:SlotsAt 327 w b v l)(i:Nat)(hi:i<l.length):
  Calls Tryz.prog 247 #[vL b,.int .i64 i] w fun e w'=>e=.returned (.tuple #[.int .i64 l[i],.int .i64 0])/\w'=w:=by
 have hc0:=za h.str 0;simp at hc0;have hle:=h.le;obtain⟨g,off,cap,rfl,hc,hf⟩:=h.at hi;clear h;go_enter Tryz.func247,Tryz.ntmps247
 go_wp2
 go_ret2
 exact⟨rfl,rfl⟩
def turnCode(l:List Int)(slot state:Int):Int:=
 if slot<0\/(l.length:Int)<=slot then 10 else if stateB state=false then 1 else if mayB (l.getD slot.toNat 0) state=false then 16 else 0
def turnList(l:List Int)(slot state:Int):List Int:=if turnCode l slot state=0 then l.set slot.toNat state else l
theorem ZJ(h:SlotsAt 327 w b v l)(ht:Tur w)(slot state:Int):
  Calls Tryz.prog 176 #[vL b,.int .i64 slot,.int .i64 state] w fun e w'=>e=.returned (.int .i64 (turnCode l slot state))/\
   SlotsAt 327 w' b v (turnList l slot state)/\Upd (ownS v) w w':=by
 have H:=qqh h;have HT:=qqh ht;clear ht;by_cases h0:slot<0\/(l.length:Int)<=slot
 .have hcode:turnCode l slot state=10:=by simp[turnCode,h0]
  have hlist:turnList l slot state=l:=by simp[turnList,hcode]
  rw[hcode,hlist];have H0:=qqh h0;clear h hcode hlist h0;go_enter Tryz.func176,Tryz.ntmps176
  go_wp2_with fail
  refine(Vo H.o _ H0.o).mono ?_;rintro e w' ⟨rfl,rfl⟩;go_wp2
  go_ret
  exact⟨rfl,H.o,uur _ _⟩
 .obtain ⟨i,rfl⟩:=qxs (show 0<=slot by omega);have hi:i<l.length:=by omega
  have hgd:l.getD i 0=l[i]:=by simp[hi]
  by_cases h1:stateB state=false
  .have hcode:turnCode l i state=1:=by simp only[turnCode,if_neg h0,if_pos h1]
   have hlist:turnList l i state=l:=by simp[turnList,hcode]
   rw[hcode,hlist];have H1:=qqh h1;clear h hcode hlist h0 hgd h1;go_enter Tryz.func176,Tryz.ntmps176
   go_wp2_with fail
   refine(tP H.o i hi).mono ?_;rintro e w' ⟨rfl,rfl⟩;go_wp2_with fail
   refine(yF state _).mono ?_;rintro e w' ⟨rfl,rfl⟩;rw[H1.o];go_wp2
   go_ret
   exact⟨rfl,H.o,uur _ _⟩
  .have h1':stateB state=true:=by simpa using h1
   by_cases h2:mayB l[i] state=false
   .have hcode:turnCode l i state=16:=by simp only[turnCode,if_neg h0,if_neg h1,qxu,hgd,if_pos h2]
    have hlist:turnList l i state=l:=by simp[turnList,hcode]
    rw[hcode,hlist];have H1:=qqh h1';have H2:=qqh h2;clear h hcode hlist h0 hgd h1 h1' h2;go_enter Tryz.func176,Tryz.ntmps176
    go_wp2_with fail
    refine(tP H.o i hi).mono ?_;rintro e w' ⟨rfl,rfl⟩;go_wp2_with fail
    refine(yF state _).mono ?_;rintro e w' ⟨rfl,rfl⟩;rw[H1.o];go_wp2_with fail
    refine(Wn _ _ _ HT.o).mono ?_;rintro e w' ⟨rfl,rfl⟩;rw[H2.o];go_wp2
    go_ret
    exact⟨rfl,H.o,uur _ _⟩
   .have h2':mayB l[i] state=true:=by simpa using h2
    have hcode:turnCode l i state=0:=by simp only[turnCode,if_neg h0,if_neg h1,qxu,hgd,if_neg h2]
    have hlist:turnList l i state=l.set i state:=by simp only[turnList,hcode,if_true,qxu]
    rw[hcode,hlist];have H1:=qqh h1';have H2:=qqh h2';have hc0:=za h.str 0;simp at hc0;have hle:=h.le;obtain⟨g,off,cap,rfl,hc,hf⟩:=h.at hi;have HF:=qqh (H.o.set i hi state);clear h hcode hlist h0 hgd h1 h1' h2 h2';go_enter Tryz.func176,Tryz.ntmps176
    go_wp2_with fail
    refine(tP H.o i hi).mono ?_;rintro e w' ⟨rfl,rfl⟩;go_wp2_with fail
    refine(yF state _).mono ?_;rintro e w' ⟨rfl,rfl⟩;rw[H1.o];go_wp2_with fail
    refine(Wn _ _ _ HT.o).mono ?_;rintro e w' ⟨rfl,rfl⟩;rw[H2.o];go_wp2
    go_ret
    exact⟨rfl,HF.o.1,HF.o.2⟩
end
theorem Aw(x y:Nat)(hx:x<18446744073709551616)(hy:y<18446744073709551616)(w:World):
  Calls Tryz.prog 318 #[.int .u64 x,.int .u64 y] w fun e w'=>e=.returned (.tuple #[.int .u64 ((x*y/18446744073709551616:Nat):Int),.int .u64 ((x*y%18446744073709551616:Nat):Int)])/\w'=w:=by
 obtain⟨bd,bt,bw,hhi⟩:=Lib.mul64_hi x y hx hy;have ba:=Lib.half_mul_le (a:=x/4294967296) (b:=y/4294967296) (by omega) (by omega);have bb:=Lib.half_mul_le (a:=x/4294967296) (b:=y%4294967296) (by omega) (by omega);have bc:=Lib.half_mul_le (a:=x%4294967296) (b:=y/4294967296) (by omega) (by omega);have ba':x/4294967296*(y/4294967296)<18446744073709551616:=by omega
 have bb':x/4294967296*(y%4294967296)<18446744073709551616:=by omega
 have bc':x%4294967296*(y/4294967296)<18446744073709551616:=by omega
 have bh1:x/4294967296*(y/4294967296)+(x/4294967296*(y%4294967296)+x%4294967296*(y%4294967296)/4294967296)/4294967296<18446744073709551616:=by omega
 have bh:x/4294967296*(y/4294967296)+(x/4294967296*(y%4294967296)+x%4294967296*(y%4294967296)/4294967296)/4294967296+((x/4294967296*(y%4294967296)+x%4294967296*(y%4294967296)/4294967296)%4294967296+x%4294967296*(y/4294967296))/4294967296<18446744073709551616:=by omega
 go_enter Tryz.func318,Tryz.ntmps318
 go_wp2
 simp only[Mul64.maskN x hx,Mul64.maskN y hy,Mul64.divN,Mul64.mulN,Mul64.addN,Mul64.wrapN _ bd,Mul64.wrapN _ bb',Mul64.wrapN _ bt,Mul64.maskN _ bt,Mul64.wrapN _ bc',Mul64.wrapN _ bw,Mul64.wrapN _ ba',Mul64.wrapN _ bh1,Mul64.wrapN _ bh,Mul64.wrapM (x*y)];rw[hhi];go_ret2
 exact⟨rfl,rfl⟩
theorem mul(x y:Nat)(hx:x<18446744073709551616)(hy:y<18446744073709551616)(w:World):
  Calls Tryz.prog 270 #[.int .u64 x,.int .u64 y] w fun e w'=>e=.returned (.tuple #[.int .u64 ((x*y/18446744073709551616:Nat):Int),.int .u64 ((x*y%18446744073709551616:Nat):Int)])/\w'=w:=by
 go_enter Tryz.func270,Tryz.ntmps270
 go_wp2_with fail
 refine(Aw x y hx hy w).mono ?_;rintro e w' ⟨rfl,rfl⟩;go_wp2
 go_ret2
 exact⟨rfl,rfl⟩
section
variable{P:Program}
theorem re(w:World)(dT sT ty elem:TypeId)(k g o dLen dCap:Nat)(a:Addr)(sLen sCap:Nat)(cur:Array Value)(t:TypeId)(cs:List Value)
  (hu:P.underlying dT=some (.slice elem)) (hs:(P.info? elem).map (·.size)=some k)
  (hg:w.heap[g]?=some (.cells cur t (0,0))) (hn:cs.length=Nat.min sLen dLen*k)
  (hsrc:∀j v,cs[j]?=some v->w.cell? (a.add j)=some v) (hfit:o+cs.length<=cur.size) (h1:∀v∈cs,v.oneCell'=true):
  (Builtin.copy_ #[dT,sT] ty #[.slice (some ⟨g,o,none⟩) dLen dCap,.slice (some a) sLen sCap]).run P w=
   .ok (goInt (Nat.min sLen dLen:Nat)) (w.setRow g (cur.toList.take o++cs++cur.toList.drop (o+cs.length)).toArray):=by
 have hl:=run_loadCells_list (P:=P) w a cs hsrc;have hst:=run_storeCells_at P g o t cs 0 cur w hg (by simpa using hfit) h1;cases hq:P.info? elem with
 |none=>simp[hq]at hs
 |some i=>
  have hi:i.size=k:=by simpa[hq]using hs
  rw[hn]at hl;simp[Builtin.copy_,run_underlying hu,Builtin.lenOf,Builtin.firstCells,sizeOf,typeInfo,hq,hi,hl,hst]
theorem ur(w:World)(dT sT elem:TypeId)(k g o dLen dCap:Nat)(a:Addr)(sLen sCap:Nat)(cur:Array Value)(t:TypeId)(cs:List Value)
  (hu:P.underlying dT=some (.slice elem)) (hs:(P.info? elem).map (·.size)=some k)
  (hg:w.heap[g]?=some (.cells cur t (0,0))) (hn:cs.length=Nat.min sLen dLen*k)
  (hsrc:∀j v,cs[j]?=some v->w.cell? (a.add j)=some v) (hfit:o+cs.length<=cur.size) (h1:∀v∈cs,v.oneCell'=true):
  ∃w',(∀ty,(Builtin.copy_ #[dT,sT] ty #[.slice (some ⟨g,o,none⟩) dLen dCap,.slice (some a) sLen sCap]).run P w=.ok (goInt (Nat.min sLen dLen:Nat)) w')/\
   w'.heap[g]?=some (.cells (cur.toList.take o++(cs++cur.toList.drop (o+cs.length))).toArray t (0,0))/\Upd (fun j=>j=g) w w'/\w'.heap.size=w.heap.size:=
 ⟨_,fun ty=>re w dT sT ty elem k g o dLen dCap a sLen sCap cur t cs hu hs hg hn hsrc hfit h1,by rw[<-qxx];exact setRow_heap w g cur _ t _ hg,⟨rfl,rfl,rfl,by simp[World.setRow],fun k _ hk=>setRow_other w g k _ (fun e=>hk e)⟩,by simp[World.setRow]⟩
end
def noPl(n:Nat):List Value:=(List.replicate n ()).flatMap fun _=>[.int .i64 (-1),.bool false]
theorem yI(n:Nat):(noPl n).length=n*2:=by
 have:=yE (f:=fun _:Unit=>[Value.int .i64 (-1),Value.bool false]) (k:=2) (fun _=>rfl) (List.replicate n ());rw[qzi]at this;exact this
theorem tQ(a b:Nat):noPl (a+b)=noPl a++noPl b:=by
 simp only[noPl];rw[<-List.replicate_append_replicate,qyf]
theorem Vp:(Tryz.prog.info? 95).map (fun i=>(i.zero,i.size,i.bytes))=some (some (.agg #[.int .i64 0,.bool false]),2,16):=by kernel_rfl
theorem Vq(n:Nat)(gx:Nat)(w:World)(h1:1<=n)(h2:n<=4096)(hx:w.heap[gx]?=some (.cells #[.int .i64 (-1),.bool false] 95)):
  Calls Tryz.prog 201 #[.slice (some ⟨gx,0,none⟩) 1 1,.int .i64 n] w fun e w'=>e=.returned (.slice (some ⟨w.heap.size,0,none⟩) n n)/\
   w'.heap[w.heap.size]?=some (.cells (noPl n).toArray 95)/\Below w.heap.size w w'/\w'.heap.size=w.heap.size+1:=by
 obtain⟨i0,hi,hz0,hz1,hz2⟩:=qZa Vp;have hmk:∀w:World,∃zs:List Value,zs.length=n*2/\(Instr.makeSlice 283 (.int .i64 n) (.int .i64 n)).run Tryz.prog w=.ok (.slice (some ⟨w.heap.size,0,none⟩) n n) (w.alloc (.cells zs.toArray 95)):=by
  intro w;have:=run_make (P:=Tryz.prog) w 283 95 i0 (.agg #[.int .i64 0,.bool false]) Tryz.underlying283 hi hz0 .i64 .i64 n n (by omega) (by omega) (by rw[hz2];omega) (by omega);refine⟨(madeCells #[.int .i64 0,.bool false] (n*2)).toList,by simp[size_madeCells],?_⟩;rw[this];simp[hz1,Value.cells]
 obtain⟨zs,hzl,hrun⟩:=hmk w;have hn0:¬(n:Int)<0:=by omega
 clear hi hz0 hz1 hz2 hmk;go_enter Tryz.func201,Tryz.ntmps201
 go_wp2_with fail
 refine(mul 1 n (by decide) (by omega) _).mono ?_;rintro e w' ⟨rfl,rfl⟩;rw[show 1*n/18446744073709551616=0 by omega,show 1*n%18446744073709551616=n by omega];have hgx:=zd hx;have hA:(w'.alloc (.cells zs.toArray 95)).heap[w'.heap.size]?=some (.cells zs.toArray 95):=zc _ _ rfl;have hxA:(w'.alloc (.cells zs.toArray 95)).heap[gx]?=some (.cells #[.int .i64 (-1),.bool false] 95):=(qxk _ _ _ hgx).trans hx;have hS:(Tryz.prog.info? 95).map (·.size)=some 2:=by kernel_rfl
 have HA:=qqh hA;have HX:=qqh hxA;have HRUN:=qqh hrun;clear hA hxA hx;have hmn:Nat.min 1 n=1:=Nat.min_eq_left h1;have e1:([.int .i64 (-1),.bool false]:List Value).length=Nat.min 1 n*2:=by rw[hmn];rfl
 have e2:∀(j:Nat) (v:Value),([.int .i64 (-1),.bool false]:List Value)[j]?=some v->(w'.alloc (.cells zs.toArray 95)).cell? ((⟨gx,0,none⟩:Addr).add j)=some v:=fun j v hj=>by rw[qxa,za HX.o];simpa using hj
 have e3:0+([.int .i64 (-1),.bool false]:List Value).length<=zs.toArray.size:=by simp;omega
 obtain⟨w2,hcp,hg2,hu2,hz2⟩:=ur (P:=Tryz.prog) (w'.alloc (.cells zs.toArray 95)) 283 283 95 2 w'.heap.size 0 n n ⟨gx,0,none⟩ 1 1 zs.toArray 95 [.int .i64 (-1),.bool false] Tryz.underlying283 hS HA.o e1 e2 e3 (by simp[Value.oneCell']);rw[hmn]at hcp;clear e1 e2 e3;have hg3:w2.heap[w'.heap.size]?=some (.cells (noPl 1++zs.drop 2).toArray 95):=by rw[hg2];rfl
 have hB2:Below w'.heap.size w' w2:=zj ((qxl _ _).alloc (qXv _) _) hu2 (qXv _) (fun j e=>by omega);have hz3:w2.heap.size=w'.heap.size+1:=by rw[hz2];simp
 clear hg2 hu2 hz2;go_wp2
 clear hcp HX HRUN hrun;go_loopg[8] (n-1) (fun q i wr=>∃(k:Nat) (rest:List Value),1<=k/\k<=n/\q=n-k/\i=.int .i64 k/\rest.length=(n-k)*2/\wr.heap[w'.heap.size]?=some (.cells (noPl k++rest).toArray 95)/\Below w'.heap.size w' wr/\wr.heap.size=w'.heap.size+1)
 case atStart=>exact⟨1,zs.drop 2,by omega,h1,rfl,rfl,by simp;omega,hg3,hB2,hz3⟩
 case round=>
  clear hg3 hB2 hz3;obtain⟨k,rest,hk1,hkn,rfl,rfl,hrl,hg,hb,hz⟩:=hrel;by_cases hlt:k<n
  .have hkk:noPl k=noPl (Nat.min k (n-k))++noPl (k-Nat.min k (n-k)):=by rw[<-tQ];congr 1;have:=Nat.min_le_left k (n-k);show k=min k (n-k)+_;have:min k (n-k)<=k:=Nat.min_le_left _ _;show k=min k (n-k)+(k-min k (n-k));omega
   obtain⟨w3,hcp,hg4,hu4,hz4⟩:=ur (P:=Tryz.prog) wr.drew 283 283 95 2 w'.heap.size (k*2) (n-k) (n-k) ⟨w'.heap.size,0,none⟩ k n (noPl k++rest).toArray 95 (noPl (Nat.min k (n-k))) Tryz.underlying283 hS hg (by rw[yI])
    (fun j v hj=>by
     rw[qxa,za (w:=wr.drew) hg];have hjl:=(qyp.1 hj).1;rw[hkk];simp only[qyv,qYe,qxx];rw[qyi hjl];exact hj)
    (by rw[yI];simp only[qXm,qzd,yI,hrl];have:Nat.min k (n-k)<=n-k:=Nat.min_le_right _ _;omega) (by intro v hv;simp only[noPl,qzu]at hv;obtain⟨_,_,hv⟩:=hv;simp at hv;rcases hv with rfl|rfl<;>simp[Value.oneCell'])
   go_wp2
   go_region
   obtain⟨c,hce⟩:=qqe (Nat.min k (n-k));rw[<-hce]at hkk hg4;have hc1:1<=c:=by rw[hce];exact Nat.le_min.2 ⟨hk1,by omega⟩
   have hc2:c<=n-k:=by rw[hce];exact Nat.min_le_right _ _
   have hg5:w3.heap[w'.heap.size]?=some (.cells (noPl (k+c)++rest.drop (c*2)).toArray 95):=by
    rw[hg4,tQ];have e1:(noPl k++rest).toArray.toList.take (k*2)=noPl k:=by simp[yI]
    have e2:(noPl k++rest).toArray.toList.drop (k*2+(noPl c).length)=rest.drop (c*2):=by
     rw[yI];show(noPl k++rest).drop (k*2+c*2)=_;rw[List.drop_append,yI,List.drop_eq_nil_of_le (by rw[yI];omega)];simp
    rw[e1,e2,qxx]
   have hb3:Below w'.heap.size w' w3:=zj hb (((uur _ wr).drew).trans hu4) (qXv _) (fun j e=>by omega);have hz5:w3.heap.size=w'.heap.size+1:=by rw[hz4];exact hz
   rw[<-hce];clear hg4 hu4 hz4 hg hb hz hcp hkk hce;have hkc:k+c<=4096:=by omega
   have hkc':∀x:Int,x=(k:Int)+c->wrap64 x=((k+c:Nat):Int):=by intro x hx;subst hx;unfold wrap64;omega
   go_wp2
   go_roundg (n-(k+c))
   case measure=>omega
   case rel=>exact⟨k+c,rest.drop (c*2),by omega,by omega,rfl,by rw[hkc' _ rfl],by simp;omega,hg5,hb3,hz5⟩
  .obtain rfl:k=n:=by omega
   obtain rfl:rest=[]:=qyd (by omega);rw[qxy]at hg;go_wp2
   go_ret
   exact⟨rfl,hg,hb,hz⟩
end Go.Proofs.YtfhfbpmlnjdfoaaGreatDoor
