/- Pages: Write o -/
import Derived.Test.YtpejdgiccaijfaaGreatDoorG10
import Derived.Test.YtpejdgiccaijfaaGreatDoorG07
import Derived.Maps.RangeWalk
set_option maxRecDepth 100000
set_option maxHeartbeats 4000000
namespace Go.Proofs.YtpejdgiccaijfaaGreatDoor
open Go Go.RowKit Go.Shelf Tryz
attribute [local go_sem] qYa
def wrsR(F:List Bk):List (Nat×Bk)->List (Nat×Bk)->List Int->DRes
 |[],O,P=>⟨F,O,P,0⟩
 |(s,y)::L,O,P=>if(writeR F O P s y).cd=0 then wrsR F L (writeR F O P s y).O (writeR F O P s y).P else writeR F O P s y
theorem ZF(F:List Bk)(L:List (Nat×Bk)):∀O P,(wrsR F L O P).F=F:=by
 induction L with
 |nil=>intro O P;rfl
 |cons x L ih=>
  intro O P;simp only[wrsR];split
  .exact ih _ _
  .exact xA _ _ _ _ _
theorem Rh(F:List Bk)(L:List (Nat×Bk)):∀O P,(wrsR F L O P).O.length<=O.length+L.length:=by
 induction L with
 |nil=>intro O P;simp[wrsR]
 |cons x L ih=>
  intro O P;have h1:=wM F O P x.1 x.2;simp only[wrsR,qyz];split
  .have:=ih (writeR F O P x.1 x.2).O (writeR F O P x.1 x.2).P;omega
  .omega
theorem wrsR_yes{F:List Bk}{x:Nat×Bk}{L O:List (Nat×Bk)}{P:List Int}(h:(writeR F O P x.1 x.2).cd=0):wrsR F (x::L) O P=wrsR F L (writeR F O P x.1 x.2).O (writeR F O P x.1 x.2).P:=by
 simp only[wrsR];exact if_pos h
theorem qa{F:List Bk}{x:Nat×Bk}{L O:List (Nat×Bk)}{P:List Int}(h:¬(writeR F O P x.1 x.2).cd=0):wrsR F (x::L) O P=writeR F O P x.1 x.2:=by
 simp only[wrsR];exact if_neg h
theorem Tq(F:List Bk)(L:List (Nat×Bk))(s:Nat)(y:Bk):∀O P,wrsR F (L++[(s,y)]) O P=if(wrsR F L O P).cd=0 then writeR F (wrsR F L O P).O (wrsR F L O P).P s y else wrsR F L O P:=by
 induction L with
 |nil=>
  intro O P;simp only[qzu,wrsR,if_true];split
  .next h=>
   have hF:=xA F O P s y;generalize writeR F O P s y=r at*;obtain⟨rF,rO,rP,rc⟩:=r;simp only at hF h;subst hF h;rfl
  .rfl
 |cons x L ih=>
  intro O P;rw[qxz];by_cases h:(writeR F O P x.1 x.2).cd=0
  .rw [wrsR_yes h,wrsR_yes h];exact ih _ _
  .rw [qa h,qa h,if_neg h]
theorem Ri(F:List Bk)(L L':List (Nat×Bk)):∀O P,(wrsR F L O P).cd≠0->wrsR F (L++L') O P=wrsR F L O P:=by
 induction L with
 |nil=>intro O P h;exact absurd rfl h
 |cons x L ih=>
  intro O P;rw[qxz];by_cases h:(writeR F O P x.1 x.2).cd=0
  .rw [wrsR_yes h,wrsR_yes h];exact ih _ _
  .rw [qa h,qa h];exact fun _=>rfl
theorem Ef{base m k:Nat}(B:List Bk)(h:k<=m):∃L',ckO base m B=ckO base k B++L':=by
 refine⟨((List.range m).drop k).map (Yl base B),?_⟩;rw[ckO,ckO,<-qzg]
 congr 1
 rw[show List.range k=(List.range m).take k by rw[List.take_range,Nat.min_eq_left h]];exact(qXi k _).symm
def PwI(T:Nat->Prop)(w5:World)(b:Nat)(F:List Bk)(O:List (Nat×Bk))(P:List Int)(base:Nat){m:Nat}(B:List Bk)(pre:List {i:Nat//i<m})(W:World):Prop:=
 (wrsR F (pre.map (fun x=>Yl base B x.1)) O P).cd=0/\Dv T W b F (wrsR F (pre.map (fun x=>Yl base B x.1)) O P).O (wrsR F (pre.map (fun x=>Yl base B x.1)) O P).P/\Upd T w5 W
def PwX(T:Nat->Prop)(w5:World)(b:Nat)(F:List Bk)(O:List (Nat×Bk))(P:List Int)(base:Nat){m:Nat}(B:List Bk)(rb:Nat)(c:Code)(pre:List {i:Nat//i<m})(W:World):Prop:=
 c=.ret/\(wrsR F (pre.map (fun x=>Yl base B x.1)) O P).cd≠0/\Dv T W b F (wrsR F (pre.map (fun x=>Yl base B x.1)) O P).O (wrsR F (pre.map (fun x=>Yl base B x.1)) O P).P/\Upd (fun j=>T j\/j=rb) w5 W/\
  W.heap[rb]?=some (.cells #[.int .i64 (wrsR F (pre.map (fun x=>Yl base B x.1)) O P).cd] 31 (0,0))
theorem Rj{T:Nat->Prop}{S:Nat->Prop}{w w5 W W':World}{b rb D:Nat}{F:List Bk}{O:List (Nat×Bk)}{P:List Int}(hrb:w.heap.size<=rb)(hD:w5.heap.size<=D)(_hw5:w.heap.size<=w5.heap.size)(hrb5:rb<w5.heap.size)
  (hT:T=fun j=>(S j/\j<w.heap.size)\/w5.heap.size<=j) (hn:∀j,w.heap.size<=j->S j) (hU:Upd (fun _=>False) w w5) (hd:Dv T W b F O P) (hu:Upd (fun j=>T j\/j=rb) w5 W) {v:Value}
  (hG:W.heap[rb]?=some (.cells #[v] 31 (0,0))) (hK:W.heap[D]?=some (.deferred (some []))) (hW':W'=W.putObj D (.deferred none)):
  W'.cell? ⟨rb,0,none⟩=some v/\Dv S W' b F O P/\Upd S w W':=by
 have hDl:=zd hK;have hW:=wH (S:=fun j=>w5.heap.size<=j) (M:=w5.heap.size) (fun j h=>h) W D _ (.deferred none) hD hK rfl rfl;subst hW';refine⟨za ((hW.block _ (zd hG) oM).trans hG) 0,?_,?_⟩
 .have h2:=hd.grown (grownBy_putObj' W D (.deferred none)) (fun r e=>by cases e;exact⟨_,hK,rfl⟩);exact h2.wide (fun j hj=>by
   rw[hT]at hj;rcases hj with hj|hj
   .exact hj.1
   .exact hn j oM)
 .have hX:Upd (fun j=>T j\/j=rb\/w5.heap.size<=j) w5 (W.putObj D (.deferred none)):=(hu.mono (fun j _ h=>h.imp id .inl)).trans (hW.mono (fun _ _ h=> .inr (.inr h)));refine(hU.mono fE).new hX (fun i hi hs=>?_);rcases hs with hs|hs|hs
  .rw [hT]at hs;rcases hs with hs|hs
   .exact hs.1
   .omega
  .omega
  .omega
theorem Eg{S:Nat->Prop}{w:World}{b:Nat}{F:List Bk}{O:List (Nat×Bk)}{P:List Int}(hd:Dv S w b F O P)(hn:∀j,w.heap.size<=j->S j)(base m seq:Nat)(lo:Option Addr)(n lc:Nat)(E:List Ent)(hEn:E.length=n)(hnm:needN n<=m)(hn1:n<=100000)
  (hbm:base+m<=F.length) (hO:O.length+m<65536) (hbuild:∀W,Below w.heap.size w W->Calls prog 130 #[.int .i64 (seq:Int),.slice lo n lc] W (xr W seq E)):
  Calls prog 82 #[.pointer (some ⟨b,0,none⟩),.int .i64 (base:Int),.int .i64 (m:Int),.int .i64 (seq:Int),.slice lo n lc] w (SZ S w b (wrsR F (ckO base m (pagesB seq E)) O P)):=by
 subst hEn;have hm1:1<=m:=by unfold needN at hnm;omega
 have hfl:=hd.good.fl;have q1:decide (m<needN E.length)=false:=by simp;omega
 obtain⟨w2,hw2⟩:=qqe ((w.alloc (.cells #[.pointer (some ⟨b,0,none⟩)] 38)).alloc (.cells #[.int .i64 0] 31));have hu2:Upd (fun _=>False) w w2:=by rw[hw2];exact((uur _ w).alloc _).alloc _
 have hd2:=hd.new hu2;have hb2:Below w.heap.size w w2:=Upd.below hu2;have hz2:w2.heap.size=w.heap.size+2:=by rw[hw2];simp
 have hg0:w2.heap[w.heap.size]?=some (.cells #[.pointer (some ⟨b,0,none⟩)] 38):=by
  rw[hw2];exact(qxk _ _ _ oe).trans (zc w _ rfl)
 have hg1:w2.heap[w.heap.size+1]?=some (.cells #[.int .i64 0] 31):=by
  rw[hw2];exact zc _ _ oe
 have H:=Y11 hd hn True.intro hnm hbuild hu2 hd2 hb2 hz2 hg0 hg1;clear hd hn hnm hbuild hu2 hb2 hz2 hg0 hg1;refine(callsIn_wide (n:=3)).1 ?_;refine callsIn_of_wp_marks func82 rfl trivial ?_ rfl;simp only[ntmps82,qXh,qyz,qzc,Nat.reduceAdd,Nat.reduceSub,qxi,qxj,qXb,qxy,qzu,qxz]
 gi_wp2_with (first
  |(refine⟨trivial,?_⟩;gi_at_call 129;rw[<-hw2];refine(callsIn_wide.2 (QC hd2 base m hm1 hbm)).mono ?_;rintro e w' ⟨rfl,rfl⟩)
  |(refine⟨trivial,?_⟩;gi_at_call 31;refine(callsIn_wide.2 (qM E.length hn1 _)).mono ?_;rintro e w' ⟨rfl,rfl⟩)
  |fail)
 refine⟨trivial,?_⟩;rw[<-hw2];refine(callsIn_wide.2 (H.o.2.2.2.2.1 w2 H.o.2.2.2.2.2.2.2.1)).mono ?_;rintro e w3 ⟨vB,rfl,hslB,hfB,hbB⟩;obtain⟨ao,cc,rfl⟩:=hslB.rd.jU;have hu23:=qqb hbB;obtain⟨w4,hw4⟩:=qqe (w3.alloc (.cells #[.slice ao (needN E.length) cc] 32));have hu34:=qqu hw4;have hg2:=qqg hw4;have hz4:w4.heap.size=w3.heap.size+1:=by rw[hw4];simp
 have H3:=Y6 hslB hfB hu23 hu34 hg2 hz4;clear hslB hfB hbB hu23 hu34 hg2 hz4 hw2 q1 hd2
 gi_wp2_with (first
  |(refine⟨trivial,?_⟩;gi_at_call 131;rw[<-hw4];refine(callsIn_wide.2 (tD (base:Int) (m:Int) w4)).mono ?_;rintro e w5 ⟨rfl,hw5⟩)
  |fail)
 have hu45:Upd (fun _=>False) w4 w5:=by rw[hw5];exact((uur _ w4).alloc _).alloc _
 have hz5:w5.heap.size=w4.heap.size+2:=by rw[hw5];simp
 have hcb:w5.cell? ⟨w4.heap.size,0,none⟩=some (.int .i64 (base:Int)):=by
  rw[hw5];exact(za ((qxk _ _ _ oe).trans (zc w4 _ rfl)) 0)
 have hcm:w5.cell? ⟨w4.heap.size+1,0,none⟩=some (.int .i64 (m:Int)):=by
  rw[hw5];exact(za (zc _ _ oe) 0)
 obtain⟨hd,hn,-,hnm,hbuild,hu2,hd2,hb2,hz2,hg0,hg1⟩:=H.o;obtain⟨hslB,hfB,hu23,hu34,hg2,hz4⟩:=H3.o;have hu25:Upd (fun _=>False) w2 w5:=(hu23.trans hu34).trans hu45;have hs3:=hu23.size;obtain⟨T,hT⟩:∃T:Nat->Prop,T=fun j=>(S j/\j<w.heap.size)\/w5.heap.size<=j:=⟨_,rfl⟩
 have hTn:∀j,w5.heap.size<=j->T j:=fun j hj=>by rw[hT];exact .inr hj
 have hTo:∀j,w.heap.size<=j->j<w5.heap.size->¬T j:=fun j h1 h2 h=>by rw[hT]at h;rcases h with h|h<;>omega
 have hd5:Dv T w5 b F O P:=((hd.ku (T:=fun j=>S j/\j<w.heap.size) (fun j h1 h2=>⟨h1,h2⟩)).new (hu2.trans hu25)).wide (fun j h=>by rw[hT];exact .inl h);have hG0:=hu25.jT hg0;have hG1:=hu25.jT hg1;have hG2:=hu45.jT hg2;have hsl5:=hslB.keep (hu34.trans hu45) (fun _ _ h=>h);have HU:=qqh (hu2.trans hu25);have H5:=Y8 hd5 hTn hTo hG0 hG1 hG2 hsl5 hT;have b64:=Wo seq E (needN E.length);clear hd hn hnm hbuild hu2 hd2 hb2 hg0 hg1 hslB hu23 hu34 hu45 hg2 hu25 hd5 hG0 hG1 hG2 hsl5 hT;rw[<-hw4,<-hw5];rw[hz4]at hcb hcm;clear hw4 hw5
 refine' wpIn_rangeFunc_ownF rfl oM (gf:=196) (lb:= #[.pointer (some ⟨w3.heap.size+1+1,0,none⟩),.pointer (some ⟨w3.heap.size+1,0,none⟩)]) rfl trivial (enters_of func196 kR rfl)
  (sF _ oM T (w3.heap.size+1+1) (w3.heap.size+1) base m w5 oM oM oM oM (hTo _ oM oM) (hTo _ oM oM) hcm hcb) uR (fun W l o o' hl=>wH (M:=w5.heap.size) hTn W l o o' hl) (qxl _ _) (fun _=>rfl)
  (PwI T w5 b F O P base (pagesB seq E))
  (PwX T w5 b F O P base (pagesB seq E) (w.heap.size+1))
  (fun pre X Y row hs hg hr=>⟨hs.1,hs.2.1.grown hg (fun r e=>(hr r e).2),xq hs.2.2 hg (fun r e=>hTn r (hr r e).1)⟩)
  (fun cc pre X Y row hs hg hr=>⟨hs.1,hs.2.1,hs.2.2.1.grown hg (fun r e=>(hr r e).2),xq hs.2.2.2.1 hg (fun r e=> .inl (hTn r (hr r e).1)),(grownBy_keeps_cells hg (fun r e=>(hr r e).2) hs.2.2.2.2 rfl).trans hs.2.2.2.2⟩)
  ⟨rfl,H5.o.1,uur _ _⟩
  _ ?assign ?body ?done ?stop
 case assign=>
  intro l x W K hK
  gi_wp2
  exact hK
 case body=>
  rintro l pre ⟨i,hi⟩ W ⟨hcd,hv,hu⟩ hlt;obtain⟨-,-,-,hG0,hG1,hG2,hsl5,-⟩:=H5.o;have hG0:=(hu.block _ (zd hG0) (hTo _ oM oM)).trans hG0;have hG1:=(hu.block _ (zd hG1) (hTo _ oM oM)).trans hG1;have hG2:=(hu.block _ (zd hG2) (hTo _ oM oM)).trans hG2;have hsl:=hsl5.keep hu (fun j hj=>hTo j (by have:=hfB j hj;omega) (hsl5.lt hj));have c0:W.cell? ⟨w.heap.size,0,none⟩=some (.pointer (some ⟨b,0,none⟩)):=za hG0 0;have c2:W.cell? ⟨w3.heap.size,0,none⟩=some (.slice ao (needN E.length) cc):=za hG2 0;have hl0:=zd hG0;have hl2:=zd hG2;obtain⟨y,hy⟩:=qqe ((pagesB seq E).getD i zB);have hyl:(bkC y).length=64:=by
   rw[zm,hy];by_cases h:i<(pagesB seq E).length
   .rw [qyf,qyj h];exact b64 _ (qyu h)
   .rw [qyf,qyk oM];rfl
  have hy64:Hid ((prog.info? 60).map (·.size)=some (bkC y).length):=by show _=_;rw[hyl];exact zF
  have hrO:=Rh F (pre.map (fun x=>Yl base (pagesB seq E) x.1)) O P;rw[qzb]at hrO;have hsn:=Tq F (pre.map (fun x=>Yl base (pagesB seq E) x.1)) (base+i) y O P;rw[if_pos hcd]at hsn;have hpm:(pre++[(⟨i,hi⟩:{i:Nat//i<m})]).map (fun x=>Yl base (pagesB seq E) x.1)=pre.map (fun x=>Yl base (pagesB seq E) x.1)++[(base+i,y)]:=by
   rw[qzg,hy];rfl
  rw[<-hpm]at hsn;generalize wrsR F (pre.map (fun x=>Yl base (pagesB seq E) x.1)) O P=r0 at*;obtain⟨rF,rO,rP,rc⟩:=r0;simp only at hcd hv hrO hsn;obtain⟨S0,h0,hs0,hcs0⟩:=hv.exact;obtain⟨W1,hW1⟩:=qqe (W.alloc (.cells (bkC y).toArray 60));have hu1:=qqu hW1;have hg1:=qqg hW1;have rA:=zg hg1;have hz1:W1.heap.size=W.heap.size+1:=by rw[hW1];simp
  have hwr:=vl (S:=fun j=>S0 j\/W1.heap.size<=j) ((h0.new hu1).wide (fun _ h=> .inl h)) (fun _ h=> .inr h) (base+i) oM y (by rw[<-zm];exact hyl) oM;have hR:writeR F rO rP (base+i) y=writeR F rO rP (base+i) y:=rfl;have hRF:=xA F rO rP (base+i) y;generalize hrr:writeR F rO rP (base+i) y=r at*;clear hR;have HB:=Y11 hv hu hsl hy hyl h0 hs0 hcs0 hW1 hu1 hz1;have HG1:=Y3 hG1 hsn hRF;have c10:W1.cell? ⟨w.heap.size,0,none⟩=some (.pointer (some ⟨b,0,none⟩)):=hu1.jS c0 id;have HW:=Y2 hwr c10;clear hv hu hsl hG0 hG1 hG2 hsl5 hy hyl h0 hs0 hcs0 hu1 hg1 hwr hz1 c10 hcd hrO hsn hpm hrr hRF;clear hG0 hG1 hG2;rw[hW1]at rA;obtain⟨rcd,hrcd⟩:=qqe (r.cd);replace hrcd:=qqh hrcd;by_cases hlt2:i<needN E.length
  .obtain ⟨g,off,cap,cur,e1,hg,hz,hc⟩:=HB.o.2.2.1.at oM;cases e1;have hBl:(pagesB seq E).length=needN E.length:=xH _ _ _;have hr:=sh (F:=pagesB seq E) b64 hg hc (i:=i) oM;have hyi:(pagesB seq E)[i]'oM =y:=by rw[HB.o.2.2.2.1,qyf,qyj oM];rfl
   rw[hyi]at hr;have hr2:=qYi hr (.cells (bkC zB).toArray 60);clear hg hz hc hyi hr
   gi_wp2_with (first
    |(refine yJ rfl _ _ rfl _ _ rfl _ _ hr2 underlying60 rfl hy64.out ?_)
    |(refine yJ rfl _ _ rfl _ _ rfl _ _ rA underlying60 rfl hy64.out ?_)
    |(refine xz rfl _ _ _ rfl _ _ _ rfl rfl (by rw[HB.o.2.2.2.2.1];rfl) hy64.out (zu y) ?_)
    |fail)
   refine⟨trivial,?_⟩;rw[show((base:Int)+(i:Int))=((base+i:Nat):Int) by simp,<-hW1];clear hW1 rA c0 c2;refine(CallsIn.inRound l (callsIn_wide.2 HW.o.1)).mono ?_;rintro e W2 ⟨rfl,hd2,hu2⟩;have hl1:w.heap.size+1<W2.heap.size:=by have:=hu2.size;have:=zd HG1.o.1;have:=HB.o.2.2.2.2.2.2.2.2.2.2;omega
   have hG1':W2.heap[w.heap.size+1]?=some (.cells #[.int .i64 0] 31):=by
    have hG1:=HG1.o.1;have hl:=zd hG1;refine(hu2.block _ (by have:=HB.o.2.2.2.2.2.2.2.2.2.2;omega) (fun hs=>?_)).trans (HB.o.2.2.2.2.2.2.2.2.2.1.jT hG1);rcases hs with hs|hs
    .exact hTo _ oM oM (HB.o.2.2.2.2.2.2.1 _ hs)
    .have:=HB.o.2.2.2.2.2.2.2.2.2.2;omega
   have f1:=zf hG1' 0;have c1':=za hG1' 0;have HD:=Y3 hd2 hu2 hG1';clear hd2 hu2 hG1';rw[<-hrcd.out];by_cases hc:rcd=0
   .have HZ:=qqh (hc▸hrcd.out:0=r.cd);subst hc
    gi_wp2
    obtain⟨hv,hu,hsl,hy,hyl,h0,hs0,hcs0,hW1,hu1,hz1⟩:=HB.o;obtain⟨hd2,hu2,hG1'⟩:=HD.o;have hsz:=hu.size;have hK1:KeepsOthers W W1:=by rw[hW1];exact KeepsOthers.alloc W _
    have hT2:Upd T W W2:=(hu1.mono fE).trans (hu2.mono (fun j _ hj=>hj.elim (fun h=>hs0 j h) (fun h=>hTn j oM)));refine⟨hK1.trans (zC hu2 (fun j hj hl=>?_)),hT2,?_,?_,hu.trans hT2⟩
    .rcases hj with hj|hj
     .obtain ⟨cs,t,z,hc⟩:=hcs0 j hj;exact⟨cs,t,z,hu1.jT hc⟩
     .omega
    .rw [HG1.o.2.1];exact HZ.o.symm
    .rw [HG1.o.2.1];have:=hd2.wide (T:=T) (fun j hj=>hj.elim (fun h=>hs0 j h) (fun h=>hTn j oM));rw[HG1.o.2.2]at this;exact this
   .have q0:(rcd==0)=false:=by simpa using hc
    gi_wp2
    obtain⟨hv,hu,hsl,hy,hyl,h0,hs0,hcs0,hW1,hu1,hz1⟩:=HB.o;obtain⟨hd2,hu2,hG1'⟩:=HD.o;have hsz:=hu.size;have hK1:KeepsOthers W W1:=by rw[hW1];exact KeepsOthers.alloc W _
    have hT2:Upd T W W2:=(hu1.mono fE).trans (hu2.mono (fun j _ hj=>hj.elim (fun h=>hs0 j h) (fun h=>hTn j oM)));have hus:=zi W2 (w.heap.size+1) 0 (.int .i64 rcd);have hne:¬T (w.heap.size+1):=hTo _ oM (by have:=H5.o.2.2.2.2.1;have:=zd this;omega);refine⟨(hK1.trans (zC hu2 (fun j hj hl=>?_))).trans (zC hus (fun j hj _=>⟨_,_,_,hj▸hG1'⟩)),rfl,?_,?_,?_,?_⟩
    .rcases hj with hj|hj
     .obtain ⟨cs,t,z,hc⟩:=hcs0 j hj;exact⟨cs,t,z,hu1.jT hc⟩
     .omega
    .rw [HG1.o.2.1,<-hrcd.out];exact hc
    .rw [HG1.o.2.1];have:=hd2.wide (T:=T) (fun j hj=>hj.elim (fun h=>hs0 j h) (fun h=>hTn j oM));rw[HG1.o.2.2]at this;exact this.keep hus (fun j hj e=>hne (e▸hj))
    .exact ((hu.trans hT2).mono (fun _ _ h=> .inl h)).trans (hus.mono (fun _ _ h=> .inr h))
    .rw [HG1.o.2.1,<-hrcd.out];exact zh hG1' 0 (.int .i64 rcd)
  .have hyz:y=zB:=by
    have hBl:(pagesB seq E).length=needN E.length:=xH _ _ _;rw[HB.o.2.2.2.1,qyf,qyk oM];rfl
   gi_wp2_with fail
   rw[zcm,<-hyz];clear hyz;refine vD _ _ rfl _ _ rfl _ _ rA underlying60 rfl hy64.out ?_
   gi_wp2_with fail
   refine⟨trivial,?_⟩;rw[show((base:Int)+(i:Int))=((base+i:Nat):Int) by simp,<-hW1];clear hW1 rA c0 c2;refine(CallsIn.inRound l (callsIn_wide.2 HW.o.1)).mono ?_;rintro e W2 ⟨rfl,hd2,hu2⟩;have hl1:w.heap.size+1<W2.heap.size:=by have:=hu2.size;have:=zd HG1.o.1;have:=HB.o.2.2.2.2.2.2.2.2.2.2;omega
   have hG1':W2.heap[w.heap.size+1]?=some (.cells #[.int .i64 0] 31):=by
    have hG1:=HG1.o.1;have hl:=zd hG1;refine(hu2.block _ (by have:=HB.o.2.2.2.2.2.2.2.2.2.2;omega) (fun hs=>?_)).trans (HB.o.2.2.2.2.2.2.2.2.2.1.jT hG1);rcases hs with hs|hs
    .exact hTo _ oM oM (HB.o.2.2.2.2.2.2.1 _ hs)
    .have:=HB.o.2.2.2.2.2.2.2.2.2.2;omega
   have f1:=zf hG1' 0;have c1':=za hG1' 0;have HD:=Y3 hd2 hu2 hG1';clear hd2 hu2 hG1';rw[<-hrcd.out];by_cases hc:rcd=0
   .have HZ:=qqh (hc▸hrcd.out:0=r.cd);subst hc
    gi_wp2
    obtain⟨hv,hu,hsl,hy,hyl,h0,hs0,hcs0,hW1,hu1,hz1⟩:=HB.o;obtain⟨hd2,hu2,hG1'⟩:=HD.o;have hsz:=hu.size;have hK1:KeepsOthers W W1:=by rw[hW1];exact KeepsOthers.alloc W _
    have hT2:Upd T W W2:=(hu1.mono fE).trans (hu2.mono (fun j _ hj=>hj.elim (fun h=>hs0 j h) (fun h=>hTn j oM)));refine⟨hK1.trans (zC hu2 (fun j hj hl=>?_)),hT2,?_,?_,hu.trans hT2⟩
    .rcases hj with hj|hj
     .obtain ⟨cs,t,z,hc⟩:=hcs0 j hj;exact⟨cs,t,z,hu1.jT hc⟩
     .omega
    .rw [HG1.o.2.1];exact HZ.o.symm
    .rw [HG1.o.2.1];have:=hd2.wide (T:=T) (fun j hj=>hj.elim (fun h=>hs0 j h) (fun h=>hTn j oM));rw[HG1.o.2.2]at this;exact this
   .have q0:(rcd==0)=false:=by simpa using hc
    gi_wp2
    obtain⟨hv,hu,hsl,hy,hyl,h0,hs0,hcs0,hW1,hu1,hz1⟩:=HB.o;obtain⟨hd2,hu2,hG1'⟩:=HD.o;have hsz:=hu.size;have hK1:KeepsOthers W W1:=by rw[hW1];exact KeepsOthers.alloc W _
    have hT2:Upd T W W2:=(hu1.mono fE).trans (hu2.mono (fun j _ hj=>hj.elim (fun h=>hs0 j h) (fun h=>hTn j oM)));have hus:=zi W2 (w.heap.size+1) 0 (.int .i64 rcd);have hne:¬T (w.heap.size+1):=hTo _ oM (by have:=H5.o.2.2.2.2.1;have:=zd this;omega);refine⟨(hK1.trans (zC hu2 (fun j hj hl=>?_))).trans (zC hus (fun j hj _=>⟨_,_,_,hj▸hG1'⟩)),rfl,?_,?_,?_,?_⟩
    .rcases hj with hj|hj
     .obtain ⟨cs,t,z,hc⟩:=hcs0 j hj;exact⟨cs,t,z,hu1.jT hc⟩
     .omega
    .rw [HG1.o.2.1,<-hrcd.out];exact hc
    .rw [HG1.o.2.1];have:=hd2.wide (T:=T) (fun j hj=>hj.elim (fun h=>hs0 j h) (fun h=>hTn j oM));rw[HG1.o.2.2]at this;exact this.keep hus (fun j hj e=>hne (e▸hj))
    .exact ((hu.trans hT2).mono (fun _ _ h=> .inl h)).trans (hus.mono (fun _ _ h=> .inr h))
    .rw [HG1.o.2.1,<-hrcd.out];exact zh hG1' 0 (.int .i64 rcd)
 case done=>
  rintro D ys W hD hys ⟨hcd,hv,hu⟩ hK;obtain⟨-,-,-,-,hG1,-,-,hT⟩:=H5.o;have hG1:=(hu.block _ (zd hG1) (hTo _ oM oM)).trans hG1;have c1:=za hG1 0;have f1:=zf hG1 0;have hyO:(ckO base m (pagesB seq E))=ys.map (fun x=>Yl base (pagesB seq E) x.1):=by
   rw[ckO,<-hys,qzi];rfl
  rw[<-hyO]at hcd hv;have hF:=ZF F (ckO base m (pagesB seq E)) O P;generalize wrsR F (ckO base m (pagesB seq E)) O P=r at*;have HV:=Y7 hv hu hcd hK hG1 hT hF;have hl1:=zd hG1;clear hv hu hyO hG1 hT hcd hF
  gi_wp2
  obtain⟨hv,hu,hcd,hK,hG1,hT,hF⟩:=HV.o;have hus:=zi W (w.heap.size+1) 0 (.int .i64 0);have hK2:(W.setCell ⟨w.heap.size+1,0,none⟩ (.int .i64 0)).heap[D]?=some (.deferred (some [])):=(hus.block D (zd hK) oM).trans hK;have hG2:=zh hG1 0 (.int .i64 0);refine⟨oe,.inl ⟨_,_,rfl,run_takeDeferred hK2,?_⟩⟩;have h1:=hv.keep hus (fun j hj e=>hTo j oM oM hj);obtain⟨e1,e2,e3⟩:=Rj (rb:=w.heap.size+1) oM hD oM oM hT H.o.2.1 HU.o h1 ((hu.mono (fun _ _ h=> .inl h)).trans (hus.mono (fun _ _ h=> .inr h))) hG2 hK2 rfl;refine⟨.int .i64 0,by simp[results,results82,go_sem,e1],?_,?_,e3⟩
  .rw [hcd]
  .rw [hF];exact e2
 case stop=>
  rintro D c pre W hD hpre ⟨rfl,hcd,hv,hu,hG⟩ hK;have hT:=H5.o.2.2.2.2.2.2.2;have hk:pre.length<=m:=by
   refine Decidable.byContradiction fun hlt=>?_;have hm':m∈pre.map (·.1):=by rw[hpre];exact qzs.2 oM
   obtain⟨x,-,hx⟩:=qzq.1 hm';have:=x.2;omega
  obtain⟨L',hL'⟩:=Ef (base:=base) (pagesB seq E) hk;have hyO:(ckO base pre.length (pagesB seq E))=pre.map (fun x=>Yl base (pagesB seq E) x.1):=by
   rw[ckO,<-hpre,qzi];rfl
  have hfull:wrsR F (ckO base m (pagesB seq E)) O P=wrsR F (pre.map (fun x=>Yl base (pagesB seq E) x.1)) O P:=by
   rw[hL',hyO];exact Ri _ _ _ _ _ hcd
  have hF:=ZF F (ckO base m (pagesB seq E)) O P;rw[<-hfull]at hcd hv hG;generalize wrsR F (ckO base m (pagesB seq E)) O P=r at*;clear hfull;obtain⟨e1,e2,e3⟩:=Rj (rb:=w.heap.size+1) oM hD oM oM hT H.o.2.1 HU.o hv hu hG hK rfl;clear hv hu hG
  gi_wp2
  refine⟨oe,.inl ⟨_,_,rfl,run_takeDeferred hK,?_⟩⟩;refine⟨.int .i64 r.cd,by simp[results,results82,go_sem,e1],rfl,?_,e3⟩;rw[hF];exact e2
end Go.Proofs.YtpejdgiccaijfaaGreatDoor
namespace Go.Proofs.YtpejdgiccaijfaaGreatDoor
open Go Go.RowKit Tryz
def saveR(F:List Bk)(O:List (Nat×Bk))(P:List Int)(L:List (Nat×Bk)):DRes:=
 if(wrsR F L O P).cd=0 then flushR F (wrsR F L O P).O (wrsR F L O P).P else wrsR F L O P
theorem Tr(F:List Bk)(O:List (Nat×Bk))(P:List Int)(L:List (Nat×Bk)):(saveR F O P L).F.length=F.length:=by
 unfold saveR;split
 .unfold flushR;repeat' split
  all_goals simp[zM]
 .rw [ZF]
theorem Rk{S:Nat->Prop}{w:World}{b:Nat}{F:List Bk}{O:List (Nat×Bk)}{P:List Int}(hd:Dv S w b F O P)(hn:∀j,w.heap.size<=j->S j)(base m seq wh:Nat)(hwh:wh<=1)(lo:Option Addr)(n lc:Nat)(E:List Ent)(hEn:E.length=n)(hnm:needN n<=m)(hn1:n<=100000)
  (hbm:base+m+m<=F.length) (hO:O.length+m<65536) (hbuild:∀W,Below w.heap.size w W->Calls prog 130 #[.int .i64 (seq:Int),.slice lo n lc] W (xr W seq E)):
  Calls prog 52 #[.pointer (some ⟨b,0,none⟩),.int .i64 (base:Int),.int .i64 (m:Int),.int .i64 (wh:Int),.int .i64 (seq:Int),.slice lo n lc] w (SZ S w b (saveR F O P (ckO (base+wh*m) m (pagesB seq E)))):=by
 have hfl:=hd.good.fl;have hW:=Eg hd hn (base+wh*m) m seq lo n lc E hEn hnm hn1 (by rcases(show wh=0\/wh=1 by omega)with rfl|rfl<;>omega) hO hbuild;have hrF:=ZF F (ckO (base+wh*m) m (pagesB seq E)) O P;obtain⟨R,hR⟩:=qqe (saveR F O P (ckO (base+wh*m) m (pagesB seq E)));rw[<-hR];unfold saveR at hR;generalize wrsR F (ckO (base+wh*m) m (pagesB seq E)) O P=r at*;have HW:=qqh hW;have HH:=Y3 hn hR hrF;obtain⟨rcd,hrcd⟩:=qqe (r.cd);replace hrcd:=qqh hrcd;clear hd hn hEn hnm hn1 hO hbuild hW hrF hR;rcases(show wh=0\/wh=1 by omega)with rfl|rfl
 .simp only[qXz,qXm,Int.natCast_zero]at*;go_enter func52,ntmps52
  go_wp2_with fail
  refine HW.o.mono ?_;rintro e w2 ⟨rfl,hd2,hu2⟩;rw[HH.o.2.2]at hd2;rw[<-hrcd.out];have HF:=Y3 (xE hd2 (fun j hj=>HH.o.1 j (by have:=hu2.size;omega))) hu2 hd2;clear hd2 hu2;by_cases hc:rcd=0
  .have HZ:=qqh (hc▸hrcd.out:0=r.cd);subst hc;go_wp2_with fail
   refine HF.o.1.mono ?_;rintro e w3 ⟨rfl,hd3,hu3⟩;have HE:=Y2 hd3 hu3;have HR:=HH.o.2.1;rw[if_pos HZ.o.symm]at HR;rw[<-HR]at HE⊢;replace HR:=qqh HR;clear hd3 hu3;go_wp2
   go_ret
   exact⟨rfl,HE.o.1,HF.o.2.1.trans HE.o.2⟩
  .have q0:(rcd==0)=false:=by simpa using hc
   have HZ:=qqh hc;go_wp2
   go_ret
   have HR:=HH.o.2.1;rw[if_neg (by rw[<-hrcd.out];exact HZ.o)]at HR;rw[HR,hrcd.out];refine⟨rfl,?_,HF.o.2.1⟩;rw[HH.o.2.2];exact HF.o.2.2
 .simp only[Nat.one_mul,Int.natCast_one]at*;have e1:((base:Int)+(m:Int))=((base+m:Nat):Int):=oe;rw[<-e1]at HW;clear e1;go_enter func52,ntmps52
  go_wp2_with fail
  refine HW.o.mono ?_;rintro e w2 ⟨rfl,hd2,hu2⟩;rw[HH.o.2.2]at hd2;rw[<-hrcd.out];have HF:=Y3 (xE hd2 (fun j hj=>HH.o.1 j (by have:=hu2.size;omega))) hu2 hd2;clear hd2 hu2;by_cases hc:rcd=0
  .have HZ:=qqh (hc▸hrcd.out:0=r.cd);subst hc;go_wp2_with fail
   refine HF.o.1.mono ?_;rintro e w3 ⟨rfl,hd3,hu3⟩;have HE:=Y2 hd3 hu3;have HR:=HH.o.2.1;rw[if_pos HZ.o.symm]at HR;rw[<-HR]at HE⊢;replace HR:=qqh HR;clear hd3 hu3;go_wp2
   go_ret
   exact⟨rfl,HE.o.1,HF.o.2.1.trans HE.o.2⟩
  .have q0:(rcd==0)=false:=by simpa using hc
   have HZ:=qqh hc;go_wp2
   go_ret
   have HR:=HH.o.2.1;rw[if_neg (by rw[<-hrcd.out];exact HZ.o)]at HR;rw[HR,hrcd.out];refine⟨rfl,?_,HF.o.2.1⟩;rw[HH.o.2.2];exact HF.o.2.2
open Go Go.RowKit Go.Maps Tryz
theorem ZG{x y:Int}(e:Lit.int .i64 x=Lit.int .i64 y):x=y:=by injection e
section
variable{α:Type}
open Classical in
noncomputable def decR (enc:α->Value) (v:Value):Option (DataW α×List MemPlace):=if h:∃e,v=enc e then some (.held (Classical.choose h),[])else none
variable{enc:α->Value}
theorem uD(hi:∀x y,enc x=enc y->x=y)(e:α):decR enc (enc e)=some (.held e,[]):=by
 have h:∃e',enc e=enc e':=⟨e,rfl⟩
 unfold decR;rw[dif_pos h,<-hi _ _ (Classical.choose_spec h)]
theorem uE{v:Value}{y:DataW α×List MemPlace}(h:decR enc v=some y):∃e,v=enc e/\y=(.held e,[]):=by
 unfold decR at h;split at h
 .rename_i hx
  cases h;exact⟨_,Classical.choose_spec hx,rfl⟩
 .cases h
def WB(D:DataW α)(f:Int->Option α):Prop:=∀s:Int,Maps.has D (.int .i64 s)=(f s).isSome/\∀c,f s=some c->∀z,D.atKey (.int .i64 s) z=.held c
variable(enc)
def MapG(w:World)(mb N:Nat)(f:Int->Option α):Prop:=∃D:DataW α,w.ownsMap prog 3 (decR enc) mb N D/\WB D f
def ZH(w:World)(mb r N:Nat)(f:Int->Option α)(left:Int->Bool)(cnt:Nat):Prop:=
 ∃(D:DataW α) (lf:Lit->Bool),w.ranges prog 3 (decR enc) mb r N D lf cnt/\WB D f/\∀s:Int,lf (.int .i64 s)=left s
variable{enc}
variable{w:World}{mb N:Nat}{f:Int->Option α}
theorem MapG.lt(h:MapG enc w mb N f):mb<w.heap.size:=by obtain⟨D,h,_⟩:=h;exact h.lt
theorem MapG.keep{w':World}(h:MapG enc w mb N f){S:Nat->Prop}(hu:Upd S w w')(hs:¬S mb):MapG enc w' mb N f:=by
 obtain⟨D,⟨es,clock,hb,r⟩,hf⟩:=h;exact⟨D,⟨es,clock,(hu.block _ (zd hb) hs).trans hb,r⟩,hf⟩
theorem MapG.mono{N':Nat}(h:MapG enc w mb N f)(hn:N<=N'):MapG enc w mb N' f:=by obtain⟨D,h,hf⟩:=h;exact⟨D,h.mono hn,hf⟩
theorem MapG.made(w:World):MapG enc (w.alloc (.map #[] 0)) w.heap.size 0 (fun _=>none):=
 ⟨.map [],World.ownsMap_made w _ _ _,fun s=>⟨rfl,fun c h=>by cases h⟩⟩
theorem MapG.look(h:MapG enc w mb N f)(hi:∀x y,enc x=enc y->x=y){t e:TypeId}(ht:prog.underlying t=some (.map 3 e)){z0:α}(hz:(zeroValue e).run prog w=.ok (enc z0) w){x:Int}(h1: -9223372036854775808<=x)(h2:x<9223372036854775808):
  (Instr.lookup t (.map (some mb)) (.int .i64 x) true).run prog w=.ok (.tuple #[enc ((f x).getD z0),.bool (f x).isSome]) w:=by
 obtain⟨D,ho,hf⟩:=h;obtain⟨v,ps,hr,hv⟩:=ho.look_ok yy ht hz (uD hi z0) (tQ h1 h2);obtain⟨c,rfl,hc⟩:=uE hv;simp only[qYd]at hc;rw[hr,(hf x).1];have:c=(f x).getD z0:=by
  cases hx:f x with
  |none=>
   have h0:=(hf x).1;rw[hx]at h0;have:=atKey_of_not_has (D:=D) h0 (.held z0);rw[this]at hc;exact(DataW.held.inj hc.1).symm
  |some c'=>
   have:=(hf x).2 c' hx (.held z0);rw[this]at hc;exact(DataW.held.inj hc.1).symm
 rw[this]
theorem MapG.drop(h:MapG enc w mb N f){t e:TypeId}(ht:prog.underlying t=some (.map 3 e)){x:Int}(h1: -9223372036854775808<=x)(h2:x<9223372036854775808)(ty:TypeId):
  ∃w',(Builtin.delete_ #[t,3] ty #[.map (some mb),.int .i64 x]).run prog w=.ok (.tuple #[]) w'/\MapG enc w' mb N (fun s=>if s=x then none else f s)/\Upd (fun j=>j=mb) w w'/\w'.heap.size=w.heap.size:=by
 obtain⟨D,ho,hf⟩:=h;obtain⟨w',hr,ho',ht'⟩:=ho.drop yy ht (tQ h1 h2) ty;refine⟨w',hr,⟨_,ho',fun s=>?_⟩,yz ht',yn ht'⟩;by_cases hs:s=x
 .subst hs;simp[has_del_same]
 .have hne:Lit.int .i64 s≠Lit.int .i64 x:=fun e=>hs (ZG e);simp only[if_neg hs,has_del_other hne];exact⟨(hf s).1,fun c hc z=>by rw[atKey_del_other hne];exact(hf s).2 c hc z⟩
theorem MapG.store(h:MapG enc w mb N f)(hi:∀x y,enc x=enc y->x=y){t e:TypeId}(ht:prog.underlying t=some (.map 3 e)){x:Int}(h1: -9223372036854775808<=x)(h2:x<9223372036854775808)(c:α)(hn:N<maxLen):
  ∃w',(Instr.mapUpdate t (.map (some mb)) (.int .i64 x) (enc c)).run prog w=.ok () w'/\MapG enc w' mb (N+1) (fun s=>if s=x then some c else f s)/\Upd (fun j=>j=mb) w w'/\w'.heap.size=w.heap.size:=by
 obtain⟨D,ho,hf⟩:=h;have hM:=ho.isMap;have hK:∀y:Int,WideAt.IsKeyLit (.int .i64 y):=fun _=>trivial;obtain⟨w',hr,ho',ht'⟩:=ho.store (ps:=[]) (d:=.held c) yy ht hn (tQ h1 h2) (uD hi c);refine⟨w',hr,⟨_,ho',fun s=>?_⟩,yz ht',yn ht'⟩;by_cases hs:s=x
 .subst hs;simp only[if_pos];exact⟨by rw[has_put_same hM (hK _)];rfl,fun c' hc' z=>by obtain rfl:=qYc hc';exact atKey_put_same hM (hK _) _ _⟩
 .have hne:Lit.int .i64 s≠Lit.int .i64 x:=fun e=>hs (ZG e);simp only[if_neg hs,has_put_other hne];exact⟨(hf s).1,fun c hc z=>by rw[atKey_put_other hne];exact(hf s).2 c hc z⟩
theorem MapG.look1(h:MapG enc w mb N f)(hi:∀x y,enc x=enc y->x=y){t e:TypeId}(ht:prog.underlying t=some (.map 3 e)){z0:α}(hz:(zeroValue e).run prog w=.ok (enc z0) w){x:Int}(h1: -9223372036854775808<=x)(h2:x<9223372036854775808):
  (Instr.lookup t (.map (some mb)) (.int .i64 x) false).run prog w=.ok (enc ((f x).getD z0)) w:=by
 obtain⟨D,ho,hf⟩:=h;obtain⟨v,ps,hr,hv⟩:=ho.lookup yy ht hz (uD hi z0) (tQ h1 h2);obtain⟨c,rfl,hc⟩:=uE hv;simp only[qYd]at hc;rw[hr];have:c=(f x).getD z0:=by
  cases hx:f x with
  |none=>
   have h0:=(hf x).1;rw[hx]at h0;have:=atKey_of_not_has (D:=D) h0 (.held z0);rw[this]at hc;exact(DataW.held.inj hc.1).symm
  |some c'=>
   have:=(hf x).2 c' hx (.held z0);rw[this]at hc;exact(DataW.held.inj hc.1).symm
 rw[this]
variable(enc)in
def MapC(w:World)(mb N:Nat)(f:Int->Option α)(c:Nat):Prop:=∃D:DataW α,w.ownsMap prog 3 (decR enc) mb N D/\WB D f/\Maps.size D=c
theorem MapC.g{c:Nat}(h:MapC enc w mb N f c):MapG enc w mb N f:=by obtain⟨D,h1,h2,-⟩:=h;exact⟨D,h1,h2⟩
theorem MapC.keep{c:Nat}{w':World}(h:MapC enc w mb N f c){S:Nat->Prop}(hu:Upd S w w')(hs:¬S mb):MapC enc w' mb N f c:=by
 obtain⟨D,⟨es,clock,hb,r⟩,hf,hc⟩:=h;exact⟨D,⟨es,clock,(hu.block _ (zd hb) hs).trans hb,r⟩,hf,hc⟩
theorem MapC.made(w:World):MapC enc (w.alloc (.map #[] 0)) w.heap.size 0 (fun _=>none) 0:=
 ⟨.map [],World.ownsMap_made w _ _ _,fun s=>⟨rfl,fun c h=>by cases h⟩,rfl⟩
theorem MapC.len{c:Nat}(h:MapC enc w mb N f c){t e:TypeId}(ht:prog.underlying t=some (.map 3 e))(ty:TypeId):(Builtin.len_ #[t] ty #[.map (some mb)]).run prog w=.ok (.int .i64 (c:Int)) w:=by
 obtain⟨D,h,-,rfl⟩:=h;exact h.len ht ty
theorem MapC.store{c0:Nat}(h:MapC enc w mb N f c0)(hi:∀x y,enc x=enc y->x=y){t e:TypeId}(ht:prog.underlying t=some (.map 3 e)){x:Int}(h1: -9223372036854775808<=x)(h2:x<9223372036854775808)(c:α)(hn:N<maxLen):
  ∃w',(Instr.mapUpdate t (.map (some mb)) (.int .i64 x) (enc c)).run prog w=.ok () w'/\MapC enc w' mb (N+1) (fun s=>if s=x then some c else f s) (if(f x).isSome then c0 else c0+1)/\Upd (fun j=>j=mb) w w'/\w'.heap.size=w.heap.size:=by
 obtain⟨D,ho,hf,hc0⟩:=h;have hM:=ho.isMap;have hK:∀y:Int,WideAt.IsKeyLit (.int .i64 y):=fun _=>trivial;obtain⟨w',hr,ho',ht'⟩:=ho.store (ps:=[]) (d:=.held c) yy ht hn (tQ h1 h2) (uD hi c);refine⟨w',hr,⟨_,ho',fun s=>?_,?_⟩,yz ht',yn ht'⟩
 .by_cases hs:s=x
  .subst hs;simp only[if_pos];exact⟨by rw[has_put_same hM (hK _)];rfl,fun c' hc' z=>by obtain rfl:=qYc hc';exact atKey_put_same hM (hK _) _ _⟩
  .have hne:Lit.int .i64 s≠Lit.int .i64 x:=fun e=>hs (ZG e);simp only[if_neg hs,has_put_other hne];exact⟨(hf s).1,fun c hc z=>by rw[atKey_put_other hne];exact(hf s).2 c hc z⟩
 .rw [size_put (ho.tidy yy),(hf x).1,hc0]
theorem ZH.lt{r:Nat}{left:Int->Bool}{cnt:Nat}(h:ZH enc w mb r N f left cnt):mb<w.heap.size/\r<w.heap.size:=by
 obtain⟨D,lf,h,-,-⟩:=h;exact⟨h.owns.lt,h.lt⟩
theorem ZH.keep{r:Nat}{left:Int->Bool}{cnt:Nat}{w':World}(h:ZH enc w mb r N f left cnt){S:Nat->Prop}(hu:Upd S w w')(h1:¬S mb)(h2:¬S r):ZH enc w' mb r N f left cnt:=by
 obtain⟨l1,l2⟩:=h.lt;obtain⟨D,lf,⟨es,clock,since,seen,c0,hb,F,hs,hD,hr,rest⟩,hf,hl⟩:=h;exact⟨D,lf,⟨es,clock,since,seen,c0,(hu.block mb l1 h1).trans hb,F,hs,hD,(hu.block r l2 h2).trans hr,rest⟩,hf,hl⟩
end
section
variable{α:Type}{enc:α->Value}{w:World}{ops:Array Oper}{rest:List Oper}{o:Oper}{a:Act}{Q:Exit->Act->World->Prop}{mb N:Nat}{f:Int->Option α}
theorem xB(hg:o.guard=none)(m:Operand)(t:TypeId)(hop:o.op=Op.range t m){e:TypeId}(ht:prog.underlying t=some (.map 3 e))
  (hm:a.eval m=.map (some mb)) (h:MapG enc w mb N f)
  (hK:∀w',(∃cnt,cnt<=N/\ZH enc w' mb w.heap.size N f (fun s=>(f s).isSome) cnt)->Upd (fun _=>False) w w'->w'.heap.size=w.heap.size+1->wpList prog ops Q rest (a.put o.dst (.pointer (some ⟨w.heap.size,0,none⟩))) w'):
  wpList prog ops Q (o::rest) a w:=by
 obtain⟨D,ho,hf⟩:=h;exact wpList_range_own w hg m t hop 3 e yy ht (decR enc) mb N D hm ho (fun w' h1 h2 h3=>hK w' ⟨_,ho.size_le,D,_,h1,hf,fun s=>(hf s).1⟩ (Upd.kh h2 (fun g hg=>by cases hg)) h3)
theorem xM(hg:o.guard=none)(it:Operand)(hop:o.op=Op.next it false){r cnt:Nat}{left:Int->Bool}
  (hit:a.eval it=.pointer (some ⟨r,0,none⟩)) (h:ZH enc w mb r N f left cnt)
  (hDone:(∀s,left s=false)->wpList prog ops Q rest (a.put o.dst (.tuple #[.bool false])) w)
  (hMore:∀(x:Int) (c:α) (w':World),left x=true->f x=some c->(∃cnt',cnt'<cnt/\ZH enc w' mb r N f (fun z=>left z&&!decide (z=x)) cnt')->Upd (fun j=>j=r) w w'->w'.heap.size=w.heap.size->
   (Instr.entry (.pointer (some ⟨r,0,none⟩))).run prog w'=.ok (.tuple #[.int .i64 x,enc c]) w'->wpList prog ops Q rest (a.put o.dst (.tuple #[.bool true,.int .i64 x,enc c])) w'):
  wpList prog ops Q (o::rest) a w:=by
 obtain⟨D,lf,h,hf,hl⟩:=h;refine wpList_next_ranges w hg it hop 3 yy (decR enc) (Value.int .i64) enc (fun key kl hk=>?_) (fun v y hv=>?_) mb r N D lf cnt hit h (fun _ h0=>hDone (fun s=>by rw[<-hl,h0])) (fun x c kl y w' cnt' hkey hlk hv hat hrg hlt hgr hsz hen=>?_)
 .obtain ⟨x,hx,-⟩:=Maps.keyOf_int_inv underlying3 hk;exact⟨x,hx⟩
 .obtain ⟨e,he,-⟩:=uE hv;exact⟨e,he⟩
 .obtain ⟨x',ex,rfl,-⟩:=Maps.keyOf_int_inv underlying3 hkey;cases ex;obtain⟨c',ec,rfl⟩:=uE hv;have hfx:f x=some c':=by
   have h1:=has_true_of_atKey hat;rw[(hf x).1]at h1;obtain⟨c2,hc2⟩:=Option.isSome_iff_exists.1 h1;have h2:=(hf x).2 c2 hc2 (.held c2);rw[hat]at h2;rw[hc2,DataW.held.inj h2]
  rw[ec]at hen⊢;refine hMore x c' w' (by rw[<-hl];exact hlk) hfx ⟨cnt',hlt,D,_,hrg,hf,fun s=>?_⟩ (Upd.kh hgr (fun g hg _=>(qYc hg).symm)) hsz hen;show(lf (.int .i64 s)&&!(Lit.int .i64 s).sameKey (.int .i64 x))=_;rw[hl];by_cases hs:s=x
  .subst hs;rw[WideAt.sameKey_self (show WideAt.IsKeyLit (.int .i64 s)from trivial),show(fun z=>left z&&!decide (z=s)) s=(left s&&!decide (s=s))from rfl,qYr rfl]
  .rw [sameKey_ne (fun e=>hs (ZG e)),show(fun z=>left z&&!decide (z=x)) s=(left s&&!decide (s=x))from rfl,decide_eq_false hs]
end
end Go.Proofs.YtpejdgiccaijfaaGreatDoor
namespace Go.Proofs.YtpejdgiccaijfaaGreatDoor
open Go Go.RowKit Tryz
def noE(e:Empty):Value:=nomatch e
def tS(w:World)(lb mb bl:Nat):Prop:=w.heap[lb]?=some (.cells #[.int .i64 (bl:Int),.map (some mb)] 173 (0,0))/\MapG noE w mb 0 (fun _=>none)
abbrev Ar(f n:Int):Value:=.agg #[.int .i64 f,.int .i64 n]
theorem wV:(prog.info? 52).map (·.size)=some 2:=kR
section
variable{w w':World}{lb mb bl:Nat}
theorem tS.keep{S:Nat->Prop}(h:tS w lb mb bl)(hu:Upd S w w')(h1:¬S lb)(h2:¬S mb):tS w' lb mb bl:=⟨(hu.block lb (zd h.1) h1).trans h.1,h.2.keep hu h2⟩
theorem tS.new(h:tS w lb mb bl)(hu:Upd (fun _=>False) w w'):tS w' lb mb bl:=h.keep hu id id
theorem zay(bl:Nat)(h1:1<=bl)(h2:bl<=4096)(w:World):Calls prog 58 #[.int .i64 (bl:Int)] w
  fun e w'=>∃lb mb,e=.returned (.tuple #[.pointer (some ⟨lb,0,none⟩),.int .i64 0])/\tS w' lb mb bl/\w.heap.size<=lb/\w.heap.size<=mb/\Below w.heap.size w w':=by
 have hmm:= @run_makeMap prog;have q1:¬(bl:Int)<1:=oM;have q2:¬(bl:Int)>4096:=oM;go_enter func58,ntmps58
 go_wp2
 go_ret2
 refine⟨w.heap.size+1,rfl,w.heap.size,⟨zc _ _ oe,(MapG.made w).keep ((uur (fun _=>False) _).alloc _) id⟩,oM,oM,((qxl _ w).alloc (qXo _) _).alloc oe _⟩
def Eh(bl:Nat)(f n:Int):Prop:=0<=f/\1<=n/\n<=bl/\f<=bl-n
theorem Ei(h:tS w lb mb bl)(f n:Int):Calls prog 170 #[.pointer (some ⟨lb,0,none⟩),Ar f n] w fun e w'=>e=.returned (.int .i64 0)/\Below w.heap.size w w':=by
 obtain⟨w1,hw1⟩:=qqe (w.alloc (.cells #[.int .i64 f,.int .i64 n] 52));have hu1:=qqu hw1;have c1:w1.cell? ⟨lb,1,none⟩=some (.map (some mb)):=by rw[za (h.new hu1).1];rfl
 have HM:=qqh (h.new hu1).2;have HW:=Y2 hw1 hu1;clear hw1 hu1;go_enter func170,ntmps170
 go_upto_region 1 with fail
 rw[<-HW.o.1];go_wp2_with (first
  |(at_range;refine xB rfl _ 171 rfl underlying171 rfl HM.o ?_;intro w6 hrg hu6 z6;refine Stop.i ?_)
  |fail)
 obtain⟨cnt,hcN,hrg⟩:=hrg;have HU:=qqh (HW.o.2.trans hu6);clear hu6 z6 c1;unfold Stop;go_wp2_with fail
 go_loopg[] 0 (fun gk wr=>wr=w6)
 case atStart=>rfl
 case round=>
  have hwr:=hrel;subst hwr;go_wp2_with (first
   |(at_next;refine xM rfl _ rfl rfl hrg (fun hl0=>Stop.i ?_) (fun x en w7 hlx hfx hcc hu7 hs7 hen=>absurd hlx oe))
   |fail)
  unfold Stop;go_wp2
  go_ret
  exact⟨rfl,HU.o.below⟩
theorem zaz(h:tS w lb mb bl)(hb:bl<=4096){f n:Int}(hs:Eh bl f n):Calls prog 169 #[.pointer (some ⟨lb,0,none⟩),Ar f n] w fun e w'=>e=.returned (.int .i64 0)/\Below w.heap.size w w':=by
 obtain⟨m,hm⟩:=qqe (w.heap.size);obtain⟨w1,hw1⟩:=qqe (w.alloc (.cells #[.int .i64 f,.int .i64 n] 52));have hu1:=qqu hw1;have g1:w1.heap[m]?=some (.cells #[.int .i64 f,.int .i64 n] 52 (0,0)):=by rw[hw1,hm];exact zc w _ rfl
 have c0:w1.cell? ⟨m,0,none⟩=some (.int .i64 f):=za g1 0;have c1:w1.cell? ⟨m,1,none⟩=some (.int .i64 n):=za g1 1;have c2:w1.cell? ⟨lb,0,none⟩=some (.int .i64 (bl:Int)):=za (h.new hu1).1 0;obtain⟨s1,s2,s3,s4⟩:=hs;have q1:¬f<0:=oM;have q2:¬n<1:=oM;have q3:¬n>(bl:Int):=oM;have q4:IntKind.i64.wrap ((bl:Int)-n)=(bl:Int)-n:=qxu _ oM;have q5:¬f>(bl:Int)-n:=oM;have HW:=Y3 hw1 hu1 hm;clear h hw1 hu1 hm g1 s1 s2 s3 s4;go_enter func169,ntmps169
 go_upto_region 1 with fail
 rw[<-HW.o.1,<-HW.o.2.2];refine qZb (S:=fun W=>W.cell? ⟨m,0,none⟩=some (.int .i64 f)/\W.cell? ⟨m,1,none⟩=some (.int .i64 n)/\W.cell? ⟨lb,0,none⟩=some (.int .i64 (bl:Int))) kR (⟨by rw[qYh];assumption,by rw[qYh];assumption,by rw[qYh];assumption⟩) (fun hHeld=>?_);refine Wl.i [0,1,2,3,4,5,6] ?_;iterate 7 refine Wl.t hHeld ?_
 refine Wl.o ?_;refine Wl.r 7 (fun K hK=>?_);go_simp
 refine hK.o _ _ (hHeld) (fun hH1=>?_);clear hK K;refine Wl.i [8,9,10,11,12,13,14,15] ?_;iterate 8 refine Wl.t hH1 ?_
 refine Wl.o ?_;refine Wl.r 16 (fun K hK=>?_);go_simp
 refine hK.o _ _ (hH1) (fun hH2=>?_);clear hK K;refine Wl.i [17,18,19,20,21,22,23,24,25,26,27] ?_;iterate 11 refine Wl.t hH2 ?_
 refine Wl.o ?_;refine Wl.r 28 (fun K hK=>?_);go_simp
 refine hK.o _ _ (hH2) (fun hH3=>?_);clear hK K;refine Wl.d ?_;go_wp2
 go_ret
 exact⟨rfl,HW.o.2.1.drew.below⟩
theorem Ej(h:tS w lb mb bl)(hb:bl<=4096){f n:Int}(hs:Eh bl f n):Calls prog 175 #[.pointer (some ⟨lb,0,none⟩),Ar f n] w fun e w'=>e=.returned (.int .i64 0)/\Below w.heap.size w w':=by
 obtain⟨m,hm⟩:=qqe (w.heap.size);obtain⟨w1,hw1⟩:=qqe (w.alloc (.cells #[.int .i64 f,.int .i64 n] 52));have hu1:=qqu hw1;have g1:w1.heap[m]?=some (.cells #[.int .i64 f,.int .i64 n] 52 (0,0)):=by rw[hw1,hm];exact zc w _ rfl
 have r1:=zg g1;have HM:=qqh (zaz (h.new hu1) hb hs);have HW:=Y5 hw1 hu1 hm h g1;have hsi:=wV;clear h hw1 hu1 hm g1;go_enter func175,ntmps175
 go_upto_region 1 with fail
 rw[<-HW.o.1,<-HW.o.2.2.1];go_wp2_with (first
  |(refine qYy rfl _ _ rfl _ _ rfl _ _ r1 underlying52 rfl hsi ?_)
  |fail)
 refine HM.o.mono ?_;rintro e w2 ⟨rfl,hb2⟩;have hu2:=qqb hb2;have r2:=zg (hu2.jT HW.o.2.2.2.2);have H2:=qqh (HW.o.2.1.trans hu2);have HB:=qqh (Ei (HW.o.2.2.2.1.new H2.o) f n);clear hb2 hu2 r1;go_wp2_with (first
  |(refine qYy rfl _ _ rfl _ _ rfl _ _ r2 underlying52 rfl hsi ?_)
  |fail)
 refine HB.o.mono ?_;rintro e w3 ⟨rfl,hb3⟩;have H3:=qqh (H2.o.trans (uuo hb3));clear hb3 r2;go_wp2
 go_ret
 exact⟨rfl,H3.o.below⟩
theorem Ts(h:tS w lb mb bl)(k:Int):Calls prog 172 #[.pointer (some ⟨lb,0,none⟩),.int .i64 k] w fun e w'=>e=.returned (.tuple #[.int .i64 0,.bool false])/\Below w.heap.size w w':=by
 have c1:w.cell? ⟨lb,1,none⟩=some (.map (some mb)):=by rw[za h.1];rfl
 have HM:=qqh h.2;go_enter func172,ntmps172
 go_wp2
 go_step3
 go_wp2
 go_step3
 go_wp2_with (first
  |(at_range;refine xB rfl _ 171 rfl underlying171 rfl HM.o ?_;intro w6 hrg hu6 z6;refine Stop.i ?_)
  |fail)
 obtain⟨cnt,hcN,hrg⟩:=hrg;have HU:=qqh hu6;clear hu6 z6 c1;unfold Stop;go_wp2_with fail
 go_loopg[6,7] 0 (fun gk s6 s7 wr=>s6=.int .i64 0/\s7=.bool false/\wr=w6)
 case atStart=>exact⟨rfl,rfl,rfl⟩
 case round=>
  obtain⟨rfl,rfl,hwr⟩:=hrel;subst hwr;go_wp2_with (first
   |(at_next;refine xM rfl _ rfl rfl hrg (fun hl0=>Stop.i ?_) (fun x en w7 hlx hfx hcc hu7 hs7 hen=>absurd hlx oe))
   |fail)
  unfold Stop;go_wp2
  rw[qxq];go_ret2
  exact⟨rfl,HU.o.below⟩
end
theorem Rl(p0:Nat)(s:Int)(y:Bk)(w:World):Calls prog 47 #[.int .i64 s,.agg (bkC y).toArray,.pointer (some ⟨p0,0,none⟩)] w
  fun e w'=>e=.returned (.func (.func 48) #[] #[.pointer (some ⟨p0,0,none⟩),.pointer (some ⟨w.heap.size,0,none⟩),.pointer (some ⟨w.heap.size+1,0,none⟩)])/\
   w'=(w.alloc (.cells #[.int .i64 s] 3)).alloc (.cells (bkC y).toArray 60):=by
 have hmf:=qqf;go_enter func47,ntmps47
 go_wp2
 go_ret
 simp
theorem sK{T:Nat->Prop}{w:World}{b p0 p1 p2:Nat}{F:List Bk}{O:List (Nat×Bk)}{P:List Int}(h:Dv T w b F O P)(hn:∀j,w.heap.size<=j->T j)(s:Nat)(y:Bk)(hy:y.length=64)
  (c0:w.cell? ⟨p0,0,none⟩=some (.pointer (some ⟨b,0,none⟩))) (c1:w.cell? ⟨p1,0,none⟩=some (.int .i64 (s:Int))) (r2:w.rangeAt p2 0 (bkC y)) (hs:s<F.length) (hO:O.length<65536):
  Calls prog 48 #[.pointer (some ⟨p0,0,none⟩),.pointer (some ⟨p1,0,none⟩),.pointer (some ⟨p2,0,none⟩)] w (SZ T w b (writeR F O P s y)):=by
 have HW:=qqh (vl h hn s hs y hy hO);have hsi:=zq y hy;clear h hn;go_enter func48,ntmps48
 go_wp2_with (first
  |(refine qYy rfl _ _ rfl _ _ rfl _ _ r2 underlying60 rfl hsi ?_)
  |fail)
 refine HW.o.mono ?_;rintro e w2 ⟨rfl,hd,hu⟩;have H2:=Y2 hd hu;obtain⟨cd,hcd⟩:=qqe ((writeR F O P s y).cd);rw[<-hcd];replace hcd:=qqh hcd;clear hd hu HW c0 c1 r2;go_wp2
 go_ret
 exact⟨by rw[<-hcd.out];rfl,H2.o⟩
def zW(k:Nat):List (Nat×Bk):=(List.range k).map fun i=>(i+1,zB)
theorem VP(k:Nat):zW (k+1)=zW k++[(k+1,zB)]:=by simp[zW,List.range_succ]
theorem Rm(k:Nat):(zW k).length=k:=by simp[zW]
theorem tc(F:List Bk)(O:List (Nat×Bk))(s:Nat)(y:Bk):writeR F O [] s y=⟨F,O++[(s,y)],[],0⟩:=rfl
theorem Tt{T:Nat->Prop}{w:World}{b pl pd:Nat}{F:List Bk}{O:List (Nat×Bk)}(h:Dv T w b F O [])(hn:∀j,w.heap.size<=j->T j)(z:Nat)(hz1:1<=z)
  (c0:w.cell? ⟨pd,0,none⟩=some (.pointer (some ⟨b,0,none⟩))) (c5:w.cell? ⟨pl,5,none⟩=some (.int .i64 (z:Int))) (hTl:¬T pl) (hTd:¬T pd) (hz:z<=F.length) (hO:O.length<=50000):
  Calls prog 50 #[.pointer (some ⟨pl,0,none⟩),.pointer (some ⟨pd,0,none⟩)] w (SZ T w b ⟨F,O++zW (z-1),[],0⟩):=by
 have hfl:=h.good.fl;obtain⟨Z,hZ⟩:=qqe (zB);have HZ:=qqh (yT Z hZ);have HH:=Y7 h hn c0 c5 hTl hTd hZ;clear h hn c0 c5 hTl hTd hZ;go_enter func50,ntmps50
 go_wp2_with fail
 go_loopg[3] (z-1) (fun gk s3 wr=>∃k:Nat,k+gk=z-1/\s3=.int .i64 ((k:Int)+1)/\Dv T wr b F (O++zW k) []/\Upd T w wr)
 case atStart=>exact⟨0,oM,oe,by rw[show zW 0=[]from rfl,qxx];exact HH.o.1,uur _ _⟩
 case round=>
  obtain⟨k,hk,rfl,hd,hu⟩:=hrel;obtain⟨h,hn,c0,c5,hTl,hTd,hZ⟩:=HH.o;have d0:=hu.jS c0 hTd;have d5:=hu.jS c5 hTl;by_cases hlt:k+1<z
  .have k1:(k:Int)+1<(z:Int):=oM;have HW:=qqh (vl hd (fun j hj=>hn j (qXq hu.size hj)) (k+1) oM Z (by rw[hZ];exact zH) (by rw[qyy,Rm];omega));rw[tc,show((k+1:Nat):Int)=(k:Int)+1 by simp]at HW;have HU:=qqh hu;clear h hn c0 c5 hTl hTd hZ hd hu;go_wp2_with (first
    |(refine zO rfl rfl HZ.o ?_)
    |fail)
   refine HW.o.mono ?_;rintro e w2 ⟨rfl,hd2,hu2⟩;have H2:=Y2 hd2 (HU.o.trans hu2);clear hd2 hu2 HW d0 d5;go_wp2
   go_roundg (gk-1)
   case measure=>omega
   case rel=>
    obtain⟨hd2,hu2⟩:=H2.o;refine⟨k+1,oM,by go_num,?_,hu2⟩;have e:O++zW (k+1)=O++zW k++[(k+1,Z)]:=by rw[VP,HH.o.2.2.2.2.2.2,qxw]
    rw[e];exact hd2
  .obtain rfl:z=k+1:=oM;have k1:¬((k:Int)+1<((k+1:Nat):Int)):=oM;have k2:¬((k:Int)+1<(k:Int)+1):=oM;have HE:=Y2 hd hu;clear h hn c0 hTl hTd hZ hd hu d0;go_wp2_with fail
   go_ret
   exact⟨rfl,HE.o.1,HE.o.2⟩
theorem Rn{T:Nat->Prop}{w:World}{b pd pl ps:Nat}{F:List Bk}{O:List (Nat×Bk)}(h:Dv T w b F O [])(hn:∀j,w.heap.size<=j->T j)(hN:Nib w)(_hNT:¬T 0)(pa:Nat)(hp1:1<=pa)(hp:1+pa+pa<=F.length)(hO:O.length+pa<65536)
  (c0:w.cell? ⟨pd,0,none⟩=some (.pointer (some ⟨b,0,none⟩))) (l0:w.cell? ⟨pl,0,none⟩=some (.int .i64 1)) (s4:w.cell? ⟨ps,4,none⟩=some (.int .i64 (pa:Int))):
  Calls prog 51 #[.pointer (some ⟨pd,0,none⟩),.pointer (some ⟨pl,0,none⟩),.pointer (some ⟨ps,0,none⟩)] w (SZ T w b ⟨flushF F (O++ckO 1 pa (pagesB 0 [])),[],[],0⟩):=by
 have HS:=Rk h hn 1 pa 0 0 oM none 0 0 [] rfl (by unfold needN;simpa using hp1) oM hp hO (fun W hW=>sH 0 oM (hN.below hW));have e:saveR F O [] (ckO (1+0*pa) pa (pagesB 0 []))=⟨flushF F (O++ckO 1 pa (pagesB 0 [])),[],[],0⟩:=by
  rw[qXz,qXm];unfold saveR;have hgo:∀(L O:List (Nat×Bk)),wrsR F L O []=⟨F,O++L,[],0⟩:=by
   intro L
   induction L with
   |nil=>intro O;simp[wrsR]
   |cons x L ih=>
    intro O;rw[wrsR_yes (by rw[tc]),tc,ih];simp
  rw[hgo];rfl
 rw[e]at HS;replace HS:=qqh HS;clear h hn hN _hNT e;go_enter func51,ntmps51
 go_wp2_with fail
 refine HS.o.mono ?_;rintro e w2 ⟨rfl,hd,hu⟩;have H2:=Y2 hd hu;clear hd hu HS c0 l0 s4;go_wp2
 go_ret
 exact⟨rfl,H2.o⟩
open Go Go.RowKit Go.Shelf Tryz
attribute [local go_sem] qYa
end Go.Proofs.YtpejdgiccaijfaaGreatDoor
