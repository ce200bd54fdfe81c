/- Pages: Write of a checkpoint's sectors, whatev -/
import Derived.Test.YtfhfbpmlnjdfoaaGreatDoorG19
import Derived.Maps.OwnIn
import Derived.Deep.RegionHeld
set_option maxRecDepth 100000
set_option maxHeartbeats 4000000
namespace Go.Proofs.YtfhfbpmlnjdfoaaGreatDoor
open Go Go.RowKit Go.Shelf
attribute [local go_sem] qYh
def wrsR(F:List Bk):List (Nat×Bk)->List (Nat×Bk)->List Int->DRes
 |[],O,P=>⟨F,O,P,0⟩
 |(s,y)::L,O,P=>if(writeR F O P s y).cd=0 then wrsR F L (writeR F O P s y).O (writeR F O P s y).P else writeR F O P s y
theorem uH(F:List Bk)(L:List (Nat×Bk)):∀O P,(wrsR F L O P).F=F:=by
 induction L with
 |nil=>intro O P;rfl
 |cons x L ih=>
  intro O P;simp only[wrsR];split
  .exact ih _ _
  .exact yu _ _ _ _ _
theorem TI(F:List Bk)(L:List (Nat×Bk)):∀O P,(wrsR F L O P).O.length<=O.length+L.length:=by
 induction L with
 |nil=>intro O P;simp[wrsR]
 |cons x L ih=>
  intro O P;have h1:=wD F O P x.1 x.2;simp only[wrsR,qze];split
  .have:=ih (writeR F O P x.1 x.2).O (writeR F O P x.1 x.2).P;omega
  .omega
theorem xT{F:List Bk}{x:Nat×Bk}{L O:List (Nat×Bk)}{P:List Int}(h:(writeR F O P x.1 x.2).cd=0):wrsR F (x::L) O P=wrsR F L (writeR F O P x.1 x.2).O (writeR F O P x.1 x.2).P:=by
 simp only[wrsR];exact if_pos h
theorem tH{F:List Bk}{x:Nat×Bk}{L O:List (Nat×Bk)}{P:List Int}(h:¬(writeR F O P x.1 x.2).cd=0):wrsR F (x::L) O P=writeR F O P x.1 x.2:=by
 simp only[wrsR];exact if_neg h
theorem VT(F:List Bk)(L:List (Nat×Bk))(s:Nat)(y:Bk):∀O P,wrsR F (L++[(s,y)]) O P=if(wrsR F L O P).cd=0 then writeR F (wrsR F L O P).O (wrsR F L O P).P s y else wrsR F L O P:=by
 induction L with
 |nil=>
  intro O P;simp only[qzz,wrsR,if_true];split
  .next h=>
   have hF:=yu F O P s y;generalize writeR F O P s y=r at*;obtain⟨rF,rO,rP,rc⟩:=r;simp only at hF h;subst hF h;rfl
  .rfl
 |cons x L ih=>
  intro O P;rw[qya];by_cases h:(writeR F O P x.1 x.2).cd=0
  .rw [xT h,xT h];exact ih _ _
  .rw [tH h,tH h,if_neg h]
theorem TJ(F:List Bk)(L L':List (Nat×Bk)):∀O P,(wrsR F L O P).cd≠0->wrsR F (L++L') O P=wrsR F L O P:=by
 induction L with
 |nil=>intro O P h;exact absurd rfl h
 |cons x L ih=>
  intro O P;rw[qya];by_cases h:(writeR F O P x.1 x.2).cd=0
  .rw [xT h,xT h];exact ih _ _
  .rw [tH h,tH h];exact fun _=>rfl
theorem Sg{base m k:Nat}(B:List Bk)(h:k<=m):∃L',ckO base m B=ckO base k B++L':=by
 refine⟨((List.range m).drop k).map (ZA base B),?_⟩;rw[ckO,ckO,<-qzl]
 congr 1
 rw[show List.range k=(List.range m).take k by rw[List.take_range,Nat.min_eq_left h]];exact(qXo k _).symm
def PwI(T:Nat->Prop)(w5:World)(b:Nat)(F:List Bk)(O:List (Nat×Bk))(P:List Int)(base:Nat){m:Nat}(B:List Bk)(pre:List {i:Nat//i<m})(W:World):Prop:=
 (wrsR F (pre.map (fun x=>ZA base B x.1)) O P).cd=0/\Dv T W b F (wrsR F (pre.map (fun x=>ZA base B x.1)) O P).O (wrsR F (pre.map (fun x=>ZA base B x.1)) O P).P/\Upd T w5 W
def PwX(T:Nat->Prop)(w5:World)(b:Nat)(F:List Bk)(O:List (Nat×Bk))(P:List Int)(base:Nat){m:Nat}(B:List Bk)(rb:Nat)(c:Code)(pre:List {i:Nat//i<m})(W:World):Prop:=
 c=.ret/\(wrsR F (pre.map (fun x=>ZA base B x.1)) O P).cd≠0/\Dv T W b F (wrsR F (pre.map (fun x=>ZA base B x.1)) O P).O (wrsR F (pre.map (fun x=>ZA base B x.1)) O P).P/\Upd (fun j=>T j\/j=rb) w5 W/\
  W.heap[rb]?=some (.cells #[.int .i64 (wrsR F (pre.map (fun x=>ZA base B x.1)) O P).cd] 28 (0,0))
theorem TK{T:Nat->Prop}{S:Nat->Prop}{w w5 W W':World}{b rb D:Nat}{F:List Bk}{O:List (Nat×Bk)}{P:List Int}(hrb:w.heap.size<=rb)(hD:w5.heap.size<=D)(_hw5:w.heap.size<=w5.heap.size)(hrb5:rb<w5.heap.size)
  (hT:T=fun j=>(S j/\j<w.heap.size)\/w5.heap.size<=j) (hn:∀j,w.heap.size<=j->S j) (hU:Upd (fun _=>False) w w5) (hd:Dv T W b F O P) (hu:Upd (fun j=>T j\/j=rb) w5 W) {v:Value}
  (hG:W.heap[rb]?=some (.cells #[v] 28 (0,0))) (hK:W.heap[D]?=some (.deferred (some []))) (hW':W'=W.putObj D (.deferred none)):
  W'.cell? ⟨rb,0,none⟩=some v/\Dv S W' b F O P/\Upd S w W':=by
 have hDl:=zd hK;have hW:=wE (S:=fun j=>w5.heap.size<=j) (M:=w5.heap.size) (fun j h=>h) W D _ (.deferred none) hD hK rfl rfl;subst hW';refine⟨za ((hW.block _ (zd hG) (by omega)).trans hG) 0,?_,?_⟩
 .have h2:=hd.grown (grownBy_putObj' W D (.deferred none)) (fun r e=>by cases e;exact⟨_,hK,rfl⟩);exact h2.wide (fun j hj=>by
   rw[hT]at hj;rcases hj with hj|hj
   .exact hj.1
   .exact hn j (by omega))
 .have hX:Upd (fun j=>T j\/j=rb\/w5.heap.size<=j) w5 (W.putObj D (.deferred none)):=(hu.mono (fun j _ h=>h.imp id .inl)).trans (hW.mono (fun _ _ h=> .inr (.inr h)));refine(hU.mono (fun _ _ h=>h.elim)).new hX (fun i hi hs=>?_);rcases hs with hs|hs|hs
  .rw [hT]at hs;rcases hs with hs|hs
   .exact hs.1
   .omega
  .omega
  .omega
theorem Sh{S:Nat->Prop}{w:World}{b:Nat}{F:List Bk}{O:List (Nat×Bk)}{P:List Int}(hd:Dv S w b F O P)(hn:∀j,w.heap.size<=j->S j)(base m seq:Nat)(lo:Option Addr)(n lc:Nat)(E:List Ent)(hEn:E.length=n)(hnm:needN n<=m)(hn1:n<=100000)
  (hbm:base+m<=F.length) (hO:O.length+m<65536) (hbuild:∀W,Below w.heap.size w W->Calls Tryz.prog 191 #[.int .i64 (seq:Int),.slice lo n lc] W (xr W seq E)):
  Calls Tryz.prog 120 #[.pointer (some ⟨b,0,none⟩),.int .i64 (base:Int),.int .i64 (m:Int),.int .i64 (seq:Int),.slice lo n lc] w (Ro S w b (wrsR F (ckO base m (pagesB seq E)) O P)):=by
 subst hEn;have hm1:1<=m:=by unfold needN at hnm;omega
 have hfl:=hd.good.fl;have q1:decide (m<needN E.length)=false:=by simp;omega
 obtain⟨w2,hw2⟩:=qqe ((w.alloc (.cells #[.pointer (some ⟨b,0,none⟩)] 46)).alloc (.cells #[.int .i64 0] 28));have hu2:Upd (fun _=>False) w w2:=by rw[hw2];exact((uur _ w).alloc _).alloc _
 have hd2:=hd.new hu2;have hb2:Below w.heap.size w w2:=Upd.below hu2;have hz2:w2.heap.size=w.heap.size+2:=by rw[hw2];simp
 have hg0:w2.heap[w.heap.size]?=some (.cells #[.pointer (some ⟨b,0,none⟩)] 46):=by
  rw[hw2];exact(qxk _ _ _ (by simp)).trans (zc w _ rfl)
 have hg1:w2.heap[w.heap.size+1]?=some (.cells #[.int .i64 0] 28):=by
  rw[hw2];exact zc _ _ (by simp)
 have H:=Y11 hd hn True.intro hnm hbuild hu2 hd2 hb2 hz2 hg0 hg1;clear hd hn hnm hbuild hu2 hb2 hz2 hg0 hg1;refine(callsIn_wide (n:=3)).1 ?_;refine callsIn_of_wp_marks Tryz.func120 rfl trivial ?_ rfl;simp only[Tryz.ntmps120,qXm,qze,qzh,Nat.reduceAdd,Nat.reduceSub,qxi,qxj,qXg,qxz,qzz,qya]
 gi_wp2_with (first
  |(refine⟨trivial,?_⟩;gi_at_call 97;rw[<-hw2];refine(callsIn_wide.2 (TA hd2 base m hm1 hbm)).mono ?_;rintro e w' ⟨rfl,rfl⟩)
  |(refine⟨trivial,?_⟩;gi_at_call 54;refine(callsIn_wide.2 (ql E.length hn1 _)).mono ?_;rintro e w' ⟨rfl,rfl⟩)
  |fail)
 refine⟨trivial,?_⟩;rw[<-hw2];refine(callsIn_wide.2 (H.o.2.2.2.2.1 w2 H.o.2.2.2.2.2.2.2.1)).mono ?_;rintro e w3 ⟨vB,rfl,hslB,hfB,hbB⟩;obtain⟨ao,cc,rfl⟩:=hslB.rd.nil_iff;have hu23:=qqb hbB;obtain⟨w4,hw4⟩:=qqe (w3.alloc (.cells #[.slice ao (needN E.length) cc] 41));have hu34:Upd (fun _=>False) w3 w4:=by rw[hw4];exact(uur _ w3).alloc _
 have hg2:w4.heap[w3.heap.size]?=some (.cells #[.slice ao (needN E.length) cc] 41):=by rw[hw4];exact zc w3 _ rfl
 have hz4:w4.heap.size=w3.heap.size+1:=by rw[hw4];simp
 have H3:=Y6 hslB hfB hu23 hu34 hg2 hz4;clear hslB hfB hbB hu23 hu34 hg2 hz4 hw2 q1 hd2
 gi_wp2_with (first
  |(refine⟨trivial,?_⟩;gi_at_call 98;rw[<-hw4];refine(callsIn_wide.2 (ta (base:Int) (m:Int) w4)).mono ?_;rintro e w5 ⟨rfl,hw5⟩)
  |fail)
 have hu45:Upd (fun _=>False) w4 w5:=by rw[hw5];exact((uur _ w4).alloc _).alloc _
 have hz5:w5.heap.size=w4.heap.size+2:=by rw[hw5];simp
 have hcb:w5.cell? ⟨w4.heap.size,0,none⟩=some (.int .i64 (base:Int)):=by
  rw[hw5];exact(za ((qxk _ _ _ (by simp)).trans (zc w4 _ rfl)) 0)
 have hcm:w5.cell? ⟨w4.heap.size+1,0,none⟩=some (.int .i64 (m:Int)):=by
  rw[hw5];exact(za (zc _ _ (by simp)) 0)
 obtain⟨hd,hn,-,hnm,hbuild,hu2,hd2,hb2,hz2,hg0,hg1⟩:=H.o;obtain⟨hslB,hfB,hu23,hu34,hg2,hz4⟩:=H3.o;have hu25:Upd (fun _=>False) w2 w5:=(hu23.trans hu34).trans hu45;have hs3:=hu23.size;obtain⟨T,hT⟩:∃T:Nat->Prop,T=fun j=>(S j/\j<w.heap.size)\/w5.heap.size<=j:=⟨_,rfl⟩
 have hTn:∀j,w5.heap.size<=j->T j:=fun j hj=>by rw[hT];exact .inr hj
 have hTo:∀j,w.heap.size<=j->j<w5.heap.size->¬T j:=fun j h1 h2 h=>by rw[hT]at h;rcases h with h|h<;>omega
 have hd5:Dv T w5 b F O P:=((hd.shrink (T:=fun j=>S j/\j<w.heap.size) (fun j h1 h2=>⟨h1,h2⟩)).new (hu2.trans hu25)).wide (fun j h=>by rw[hT];exact .inl h);have hG0:=hu25.blockv hg0;have hG1:=hu25.blockv hg1;have hG2:=hu45.blockv hg2;have hsl5:=hslB.keep (hu34.trans hu45) (fun _ _ h=>h);have HU:=qqh (hu2.trans hu25);have H5:=Y8 hd5 hTn hTo hG0 hG1 hG2 hsl5 hT;have b64:=Xt seq E (needN E.length);clear hd hn hnm hbuild hu2 hd2 hb2 hg0 hg1 hslB hu23 hu34 hu45 hg2 hu25 hd5 hG0 hG1 hG2 hsl5 hT;rw[<-hw4,<-hw5];rw[hz4]at hcb hcm;clear hw4 hw5
 refine' wpIn_rangeFunc_ownF rfl (by omega) (gf:=171) (lb:= #[.pointer (some ⟨w3.heap.size+1+1,0,none⟩),.pointer (some ⟨w3.heap.size+1,0,none⟩)]) rfl trivial (enters_of Tryz.func171 (by kernel_rfl) rfl)
  (rG _ (by omega) T (w3.heap.size+1+1) (w3.heap.size+1) base m w5 (by omega) (by omega) (by omega) (by omega) (hTo _ (by omega) (by omega)) (hTo _ (by omega) (by omega)) hcm hcb) uC (fun W l o o' hl=>wE (M:=w5.heap.size) hTn W l o o' hl) (qxl _ _) (fun _=>rfl)
  (PwI T w5 b F O P base (pagesB seq E))
  (PwX T w5 b F O P base (pagesB seq E) (w.heap.size+1))
  (fun pre X Y row hs hg hr=>⟨hs.1,hs.2.1.grown hg (fun r e=>(hr r e).2),xq hs.2.2 hg (fun r e=>hTn r (hr r e).1)⟩)
  (fun cc pre X Y row hs hg hr=>⟨hs.1,hs.2.1,hs.2.2.1.grown hg (fun r e=>(hr r e).2),xq hs.2.2.2.1 hg (fun r e=> .inl (hTn r (hr r e).1)),(grownBy_keeps_cells hg (fun r e=>(hr r e).2) hs.2.2.2.2 rfl).trans hs.2.2.2.2⟩)
  ⟨rfl,H5.o.1,uur _ _⟩
  _ ?assign ?body ?done ?stop
 case assign=>
  intro l x W K hK
  gi_wp2
  exact hK
 case body=>
  rintro l pre ⟨i,hi⟩ W ⟨hcd,hv,hu⟩ hlt;obtain⟨-,-,-,hG0,hG1,hG2,hsl5,-⟩:=H5.o;have hG0:=(hu.block _ (zd hG0) (hTo _ (by omega) (by omega))).trans hG0;have hG1:=(hu.block _ (zd hG1) (hTo _ (by omega) (by omega))).trans hG1;have hG2:=(hu.block _ (zd hG2) (hTo _ (by omega) (by omega))).trans hG2;have hsl:=hsl5.keep hu (fun j hj=>hTo j (by have:=hfB j hj;omega) (hsl5.lt hj));have c0:W.cell? ⟨w.heap.size,0,none⟩=some (.pointer (some ⟨b,0,none⟩)):=za hG0 0;have c2:W.cell? ⟨w3.heap.size,0,none⟩=some (.slice ao (needN E.length) cc):=za hG2 0;have hl0:=zd hG0;have hl2:=zd hG2;obtain⟨y,hy⟩:=qqe ((pagesB seq E).getD i zB);have hyl:(bkC y).length=64:=by
   rw[zo,hy];by_cases h:i<(pagesB seq E).length
   .rw [qyh,qyn h];exact b64 _ (qyz h)
   .rw [qyh,qyo (by omega)];rfl
  have hy64:Hid ((Tryz.prog.info? 54).map (·.size)=some (bkC y).length):=by show _=_;rw[hyl];exact zF
  have hrO:=TI F (pre.map (fun x=>ZA base (pagesB seq E) x.1)) O P;rw[qzg]at hrO;have hsn:=VT F (pre.map (fun x=>ZA base (pagesB seq E) x.1)) (base+i) y O P;rw[if_pos hcd]at hsn;have hpm:(pre++[(⟨i,hi⟩:{i:Nat//i<m})]).map (fun x=>ZA base (pagesB seq E) x.1)=pre.map (fun x=>ZA base (pagesB seq E) x.1)++[(base+i,y)]:=by
   rw[qzl,hy];rfl
  rw[<-hpm]at hsn;generalize wrsR F (pre.map (fun x=>ZA base (pagesB seq E) x.1)) O P=r0 at*;obtain⟨rF,rO,rP,rc⟩:=r0;simp only at hcd hv hrO hsn;obtain⟨S0,h0,hs0,hcs0⟩:=hv.exact;obtain⟨W1,hW1⟩:=qqe (W.alloc (.cells (bkC y).toArray 54));have hu1:Upd (fun _=>False) W W1:=by rw[hW1];exact(uur _ W).alloc _
  have hg1:W1.heap[W.heap.size]?=some (.cells (bkC y).toArray 54):=by rw[hW1];exact zc W _ rfl
  have rA:=zg hg1;have hz1:W1.heap.size=W.heap.size+1:=by rw[hW1];simp
  have hwr:=wI (S:=fun j=>S0 j\/W1.heap.size<=j) ((h0.new hu1).wide (fun _ h=> .inl h)) (fun _ h=> .inr h) (base+i) (by omega) y (by rw[<-zo];exact hyl) (by omega);have hR:writeR F rO rP (base+i) y=writeR F rO rP (base+i) y:=rfl;have hRF:=yu F rO rP (base+i) y;generalize hrr:writeR F rO rP (base+i) y=r at*;clear hR;have HB:=Y11 hv hu hsl hy hyl h0 hs0 hcs0 hW1 hu1 hz1;have HG1:=Y3 hG1 hsn hRF;have c10:W1.cell? ⟨w.heap.size,0,none⟩=some (.pointer (some ⟨b,0,none⟩)):=hu1.cellv c0 (fun h=>h);have HW:=Y2 hwr c10;clear hv hu hsl hG0 hG1 hG2 hsl5 hy hyl h0 hs0 hcs0 hu1 hg1 hwr hz1 c10 hcd hrO hsn hpm hrr hRF;clear hG0 hG1 hG2;rw[hW1]at rA;obtain⟨rcd,hrcd⟩:=qqe (r.cd);replace hrcd:=qqh hrcd;by_cases hlt2:i<needN E.length
  .obtain ⟨g,off,cap,cur,e1,hg,hz,hc⟩:=HB.o.2.2.1.at (by omega);cases e1;have hBl:(pagesB seq E).length=needN E.length:=xg _ _ _;have hr:=rm (F:=pagesB seq E) b64 hg hc (i:=i) (by omega);have hyi:(pagesB seq E)[i]'(by omega)=y:=by rw[HB.o.2.2.2.1,qyh,qyn (by omega)];rfl
   rw[hyi]at hr;have hr2:=qYp hr (.cells (bkC zB).toArray 54);clear hg hz hc hyi hr
   gi_wp2_with (first
    |(refine yM rfl _ _ rfl _ _ rfl _ _ hr2 Tryz.underlying54 rfl hy64.out ?_)
    |(refine yM rfl _ _ rfl _ _ rfl _ _ rA Tryz.underlying54 rfl hy64.out ?_)
    |(refine xy rfl _ _ _ rfl _ _ _ rfl rfl (by rw[HB.o.2.2.2.2.1];rfl) hy64.out (zv y) ?_)
    |fail)
   refine⟨trivial,?_⟩;rw[show((base:Int)+(i:Int))=((base+i:Nat):Int) by simp,<-hW1];clear hW1 rA c0 c2;refine(CallsIn.inRound l (callsIn_wide.2 HW.o.1)).mono ?_;rintro e W2 ⟨rfl,hd2,hu2⟩;have hl1:w.heap.size+1<W2.heap.size:=by have:=hu2.size;have:=zd HG1.o.1;have:=HB.o.2.2.2.2.2.2.2.2.2.2;omega
   have hG1':W2.heap[w.heap.size+1]?=some (.cells #[.int .i64 0] 28):=by
    have hG1:=HG1.o.1;have hl:=zd hG1;refine(hu2.block _ (by have:=HB.o.2.2.2.2.2.2.2.2.2.2;omega) (fun hs=>?_)).trans (HB.o.2.2.2.2.2.2.2.2.2.1.blockv hG1);rcases hs with hs|hs
    .exact hTo _ (by omega) (by omega) (HB.o.2.2.2.2.2.2.1 _ hs)
    .have:=HB.o.2.2.2.2.2.2.2.2.2.2;omega
   have f1:=zf hG1' 0;have c1':=za hG1' 0;have HD:=Y3 hd2 hu2 hG1';clear hd2 hu2 hG1';rw[<-hrcd.out];by_cases hc:rcd=0
   .have HZ:=qqh (hc▸hrcd.out:0=r.cd);subst hc
    gi_wp2
    obtain⟨hv,hu,hsl,hy,hyl,h0,hs0,hcs0,hW1,hu1,hz1⟩:=HB.o;obtain⟨hd2,hu2,hG1'⟩:=HD.o;have hsz:=hu.size;have hK1:KeepsOthers W W1:=by rw[hW1];exact KeepsOthers.alloc W _
    have hT2:Upd T W W2:=(hu1.mono (fun _ _ h=>h.elim)).trans (hu2.mono (fun j _ hj=>hj.elim (fun h=>hs0 j h) (fun h=>hTn j (by omega))));refine⟨hK1.trans (zA hu2 (fun j hj hl=>?_)),hT2,?_,?_,hu.trans hT2⟩
    .rcases hj with hj|hj
     .obtain ⟨cs,t,z,hc⟩:=hcs0 j hj;exact⟨cs,t,z,hu1.blockv hc⟩
     .omega
    .rw [HG1.o.2.1];exact HZ.o.symm
    .rw [HG1.o.2.1];have:=hd2.wide (T:=T) (fun j hj=>hj.elim (fun h=>hs0 j h) (fun h=>hTn j (by omega)));rw[HG1.o.2.2]at this;exact this
   .have q0:(rcd==0)=false:=by simpa using hc
    gi_wp2
    obtain⟨hv,hu,hsl,hy,hyl,h0,hs0,hcs0,hW1,hu1,hz1⟩:=HB.o;obtain⟨hd2,hu2,hG1'⟩:=HD.o;have hsz:=hu.size;have hK1:KeepsOthers W W1:=by rw[hW1];exact KeepsOthers.alloc W _
    have hT2:Upd T W W2:=(hu1.mono (fun _ _ h=>h.elim)).trans (hu2.mono (fun j _ hj=>hj.elim (fun h=>hs0 j h) (fun h=>hTn j (by omega))));have hus:=zi W2 (w.heap.size+1) 0 (.int .i64 rcd);have hne:¬T (w.heap.size+1):=hTo _ (by omega) (by have:=H5.o.2.2.2.2.1;have:=zd this;omega);refine⟨(hK1.trans (zA hu2 (fun j hj hl=>?_))).trans (zA hus (fun j hj _=>⟨_,_,_,hj▸hG1'⟩)),rfl,?_,?_,?_,?_⟩
    .rcases hj with hj|hj
     .obtain ⟨cs,t,z,hc⟩:=hcs0 j hj;exact⟨cs,t,z,hu1.blockv hc⟩
     .omega
    .rw [HG1.o.2.1,<-hrcd.out];exact hc
    .rw [HG1.o.2.1];have:=hd2.wide (T:=T) (fun j hj=>hj.elim (fun h=>hs0 j h) (fun h=>hTn j (by omega)));rw[HG1.o.2.2]at this;exact this.keep hus (fun j hj e=>hne (e▸hj))
    .exact ((hu.trans hT2).mono (fun _ _ h=> .inl h)).trans (hus.mono (fun _ _ h=> .inr h))
    .rw [HG1.o.2.1,<-hrcd.out];exact zh hG1' 0 (.int .i64 rcd)
  .have hyz:y=zB:=by
    have hBl:(pagesB seq E).length=needN E.length:=xg _ _ _;rw[HB.o.2.2.2.1,qyh,qyo (by omega)];rfl
   gi_wp2_with fail
   rw[JR,<-hyz];clear hyz;refine wY _ _ rfl _ _ rfl _ _ rA Tryz.underlying54 rfl hy64.out ?_
   gi_wp2_with fail
   refine⟨trivial,?_⟩;rw[show((base:Int)+(i:Int))=((base+i:Nat):Int) by simp,<-hW1];clear hW1 rA c0 c2;refine(CallsIn.inRound l (callsIn_wide.2 HW.o.1)).mono ?_;rintro e W2 ⟨rfl,hd2,hu2⟩;have hl1:w.heap.size+1<W2.heap.size:=by have:=hu2.size;have:=zd HG1.o.1;have:=HB.o.2.2.2.2.2.2.2.2.2.2;omega
   have hG1':W2.heap[w.heap.size+1]?=some (.cells #[.int .i64 0] 28):=by
    have hG1:=HG1.o.1;have hl:=zd hG1;refine(hu2.block _ (by have:=HB.o.2.2.2.2.2.2.2.2.2.2;omega) (fun hs=>?_)).trans (HB.o.2.2.2.2.2.2.2.2.2.1.blockv hG1);rcases hs with hs|hs
    .exact hTo _ (by omega) (by omega) (HB.o.2.2.2.2.2.2.1 _ hs)
    .have:=HB.o.2.2.2.2.2.2.2.2.2.2;omega
   have f1:=zf hG1' 0;have c1':=za hG1' 0;have HD:=Y3 hd2 hu2 hG1';clear hd2 hu2 hG1';rw[<-hrcd.out];by_cases hc:rcd=0
   .have HZ:=qqh (hc▸hrcd.out:0=r.cd);subst hc
    gi_wp2
    obtain⟨hv,hu,hsl,hy,hyl,h0,hs0,hcs0,hW1,hu1,hz1⟩:=HB.o;obtain⟨hd2,hu2,hG1'⟩:=HD.o;have hsz:=hu.size;have hK1:KeepsOthers W W1:=by rw[hW1];exact KeepsOthers.alloc W _
    have hT2:Upd T W W2:=(hu1.mono (fun _ _ h=>h.elim)).trans (hu2.mono (fun j _ hj=>hj.elim (fun h=>hs0 j h) (fun h=>hTn j (by omega))));refine⟨hK1.trans (zA hu2 (fun j hj hl=>?_)),hT2,?_,?_,hu.trans hT2⟩
    .rcases hj with hj|hj
     .obtain ⟨cs,t,z,hc⟩:=hcs0 j hj;exact⟨cs,t,z,hu1.blockv hc⟩
     .omega
    .rw [HG1.o.2.1];exact HZ.o.symm
    .rw [HG1.o.2.1];have:=hd2.wide (T:=T) (fun j hj=>hj.elim (fun h=>hs0 j h) (fun h=>hTn j (by omega)));rw[HG1.o.2.2]at this;exact this
   .have q0:(rcd==0)=false:=by simpa using hc
    gi_wp2
    obtain⟨hv,hu,hsl,hy,hyl,h0,hs0,hcs0,hW1,hu1,hz1⟩:=HB.o;obtain⟨hd2,hu2,hG1'⟩:=HD.o;have hsz:=hu.size;have hK1:KeepsOthers W W1:=by rw[hW1];exact KeepsOthers.alloc W _
    have hT2:Upd T W W2:=(hu1.mono (fun _ _ h=>h.elim)).trans (hu2.mono (fun j _ hj=>hj.elim (fun h=>hs0 j h) (fun h=>hTn j (by omega))));have hus:=zi W2 (w.heap.size+1) 0 (.int .i64 rcd);have hne:¬T (w.heap.size+1):=hTo _ (by omega) (by have:=H5.o.2.2.2.2.1;have:=zd this;omega);refine⟨(hK1.trans (zA hu2 (fun j hj hl=>?_))).trans (zA hus (fun j hj _=>⟨_,_,_,hj▸hG1'⟩)),rfl,?_,?_,?_,?_⟩
    .rcases hj with hj|hj
     .obtain ⟨cs,t,z,hc⟩:=hcs0 j hj;exact⟨cs,t,z,hu1.blockv hc⟩
     .omega
    .rw [HG1.o.2.1,<-hrcd.out];exact hc
    .rw [HG1.o.2.1];have:=hd2.wide (T:=T) (fun j hj=>hj.elim (fun h=>hs0 j h) (fun h=>hTn j (by omega)));rw[HG1.o.2.2]at this;exact this.keep hus (fun j hj e=>hne (e▸hj))
    .exact ((hu.trans hT2).mono (fun _ _ h=> .inl h)).trans (hus.mono (fun _ _ h=> .inr h))
    .rw [HG1.o.2.1,<-hrcd.out];exact zh hG1' 0 (.int .i64 rcd)
 case done=>
  rintro D ys W hD hys ⟨hcd,hv,hu⟩ hK;obtain⟨-,-,-,-,hG1,-,-,hT⟩:=H5.o;have hG1:=(hu.block _ (zd hG1) (hTo _ (by omega) (by omega))).trans hG1;have c1:=za hG1 0;have f1:=zf hG1 0;have hyO:(ckO base m (pagesB seq E))=ys.map (fun x=>ZA base (pagesB seq E) x.1):=by
   rw[ckO,<-hys,qzn];rfl
  rw[<-hyO]at hcd hv;have hF:=uH F (ckO base m (pagesB seq E)) O P;generalize wrsR F (ckO base m (pagesB seq E)) O P=r at*;have HV:=Y7 hv hu hcd hK hG1 hT hF;have hl1:=zd hG1;clear hv hu hyO hG1 hT hcd hF
  gi_wp2
  obtain⟨hv,hu,hcd,hK,hG1,hT,hF⟩:=HV.o;have hus:=zi W (w.heap.size+1) 0 (.int .i64 0);have hK2:(W.setCell ⟨w.heap.size+1,0,none⟩ (.int .i64 0)).heap[D]?=some (.deferred (some [])):=(hus.block D (zd hK) (by omega)).trans hK;have hG2:=zh hG1 0 (.int .i64 0);refine⟨by simp,.inl ⟨_,_,rfl,run_takeDeferred hK2,?_⟩⟩;have h1:=hv.keep hus (fun j hj e=>hTo j (by omega) (by omega) hj);obtain⟨e1,e2,e3⟩:=TK (rb:=w.heap.size+1) (by omega) hD (by omega) (by omega) hT H.o.2.1 HU.o h1 ((hu.mono (fun _ _ h=> .inl h)).trans (hus.mono (fun _ _ h=> .inr h))) hG2 hK2 rfl;refine⟨.int .i64 0,by simp[results,Tryz.results120,go_sem,e1],?_,?_,e3⟩
  .rw [hcd]
  .rw [hF];exact e2
 case stop=>
  rintro D c pre W hD hpre ⟨rfl,hcd,hv,hu,hG⟩ hK;have hT:=H5.o.2.2.2.2.2.2.2;have hk:pre.length<=m:=by
   refine Decidable.byContradiction fun hlt=>?_;have hm':m∈pre.map (·.1):=by rw[hpre];exact qzx.2 (by omega)
   obtain⟨x,-,hx⟩:=qzv.1 hm';have:=x.2;omega
  obtain⟨L',hL'⟩:=Sg (base:=base) (pagesB seq E) hk;have hyO:(ckO base pre.length (pagesB seq E))=pre.map (fun x=>ZA base (pagesB seq E) x.1):=by
   rw[ckO,<-hpre,qzn];rfl
  have hfull:wrsR F (ckO base m (pagesB seq E)) O P=wrsR F (pre.map (fun x=>ZA base (pagesB seq E) x.1)) O P:=by
   rw[hL',hyO];exact TJ _ _ _ _ _ hcd
  have hF:=uH F (ckO base m (pagesB seq E)) O P;rw[<-hfull]at hcd hv hG;generalize wrsR F (ckO base m (pagesB seq E)) O P=r at*;clear hfull;obtain⟨e1,e2,e3⟩:=TK (rb:=w.heap.size+1) (by omega) hD (by omega) (by omega) hT H.o.2.1 HU.o hv hu hG hK rfl;clear hv hu hG
  gi_wp2
  refine⟨by simp,.inl ⟨_,_,rfl,run_takeDeferred hK,?_⟩⟩;refine⟨.int .i64 r.cd,by simp[results,Tryz.results120,go_sem,e1],rfl,?_,e3⟩;rw[hF];exact e2
end Go.Proofs.YtfhfbpmlnjdfoaaGreatDoor
namespace Go.Proofs.YtfhfbpmlnjdfoaaGreatDoor
open Go Go.RowKit
def saveR(F:List Bk)(O:List (Nat×Bk))(P:List Int)(L:List (Nat×Bk)):DRes:=
 if(wrsR F L O P).cd=0 then flushR F (wrsR F L O P).O (wrsR F L O P).P else wrsR F L O P
theorem VU(F:List Bk)(O:List (Nat×Bk))(P:List Int)(L:List (Nat×Bk)):(saveR F O P L).F.length=F.length:=by
 unfold saveR;split
 .unfold flushR;repeat' split
  all_goals simp[zH]
 .rw [uH]
theorem TL{S:Nat->Prop}{w:World}{b:Nat}{F:List Bk}{O:List (Nat×Bk)}{P:List Int}(hd:Dv S w b F O P)(hn:∀j,w.heap.size<=j->S j)(base m seq wh:Nat)(hwh:wh<=1)(lo:Option Addr)(n lc:Nat)(E:List Ent)(hEn:E.length=n)(hnm:needN n<=m)(hn1:n<=100000)
  (hbm:base+m+m<=F.length) (hO:O.length+m<65536) (hbuild:∀W,Below w.heap.size w W->Calls Tryz.prog 191 #[.int .i64 (seq:Int),.slice lo n lc] W (xr W seq E)):
  Calls Tryz.prog 60 #[.pointer (some ⟨b,0,none⟩),.int .i64 (base:Int),.int .i64 (m:Int),.int .i64 (wh:Int),.int .i64 (seq:Int),.slice lo n lc] w (Ro S w b (saveR F O P (ckO (base+wh*m) m (pagesB seq E)))):=by
 have hfl:=hd.good.fl;have hW:=Sh hd hn (base+wh*m) m seq lo n lc E hEn hnm hn1 (by rcases(show wh=0\/wh=1 by omega)with rfl|rfl<;>omega) hO hbuild;have hrF:=uH F (ckO (base+wh*m) m (pagesB seq E)) O P;obtain⟨R,hR⟩:=qqe (saveR F O P (ckO (base+wh*m) m (pagesB seq E)));rw[<-hR];unfold saveR at hR;generalize wrsR F (ckO (base+wh*m) m (pagesB seq E)) O P=r at*;have HW:=qqh hW;have HH:=Y3 hn hR hrF;obtain⟨rcd,hrcd⟩:=qqe (r.cd);replace hrcd:=qqh hrcd;clear hd hn hEn hnm hn1 hO hbuild hW hrF hR;rcases(show wh=0\/wh=1 by omega)with rfl|rfl
 .simp only[qYg,qXs,Int.natCast_zero]at*;go_enter Tryz.func60,Tryz.ntmps60
  go_wp2_with fail
  refine HW.o.mono ?_;rintro e w2 ⟨rfl,hd2,hu2⟩;rw[HH.o.2.2]at hd2;rw[<-hrcd.out];have HF:=Y3 (xF hd2 (fun j hj=>HH.o.1 j (by have:=hu2.size;omega))) hu2 hd2;clear hd2 hu2;by_cases hc:rcd=0
  .have HZ:=qqh (hc▸hrcd.out:0=r.cd);subst hc;go_wp2_with fail
   refine HF.o.1.mono ?_;rintro e w3 ⟨rfl,hd3,hu3⟩;have HE:=Y2 hd3 hu3;have HR:=HH.o.2.1;rw[if_pos HZ.o.symm]at HR;rw[<-HR]at HE⊢;replace HR:=qqh HR;clear hd3 hu3;go_wp2
   go_ret
   exact⟨rfl,HE.o.1,HF.o.2.1.trans HE.o.2⟩
  .have q0:(rcd==0)=false:=by simpa using hc
   have HZ:=qqh hc;go_wp2
   go_ret
   have HR:=HH.o.2.1;rw[if_neg (by rw[<-hrcd.out];exact HZ.o)]at HR;rw[HR,hrcd.out];refine⟨rfl,?_,HF.o.2.1⟩;rw[HH.o.2.2];exact HF.o.2.2
 .simp only[Nat.one_mul,Int.natCast_one]at*;have e1:((base:Int)+(m:Int))=((base+m:Nat):Int):=by simp
  rw[<-e1]at HW;clear e1;go_enter Tryz.func60,Tryz.ntmps60
  go_wp2_with fail
  refine HW.o.mono ?_;rintro e w2 ⟨rfl,hd2,hu2⟩;rw[HH.o.2.2]at hd2;rw[<-hrcd.out];have HF:=Y3 (xF hd2 (fun j hj=>HH.o.1 j (by have:=hu2.size;omega))) hu2 hd2;clear hd2 hu2;by_cases hc:rcd=0
  .have HZ:=qqh (hc▸hrcd.out:0=r.cd);subst hc;go_wp2_with fail
   refine HF.o.1.mono ?_;rintro e w3 ⟨rfl,hd3,hu3⟩;have HE:=Y2 hd3 hu3;have HR:=HH.o.2.1;rw[if_pos HZ.o.symm]at HR;rw[<-HR]at HE⊢;replace HR:=qqh HR;clear hd3 hu3;go_wp2
   go_ret
   exact⟨rfl,HE.o.1,HF.o.2.1.trans HE.o.2⟩
  .have q0:(rcd==0)=false:=by simpa using hc
   have HZ:=qqh hc;go_wp2
   go_ret
   have HR:=HH.o.2.1;rw[if_neg (by rw[<-hrcd.out];exact HZ.o)]at HR;rw[HR,hrcd.out];refine⟨rfl,?_,HF.o.2.1⟩;rw[HH.o.2.2];exact HF.o.2.2
open Go Go.RowKit Go.Shelf
attribute [local go_sem] qYh
theorem JX(n:Nat)(hn:2<=n)(S:Nat->Prop)(l Bs Bp b off cap:Nat)(qs:List (Int×Bool))(fr:Nat)
  (hle:qs.length<=4096) (hfr:fr<=4096) (hgood:∀k (h:k<qs.length),qs[k]=(-1,false)\/0<=qs[k].1) (hb:¬S b) (hBp:¬S Bp) (J Jx:List It9->World->Prop) (B0:Nat) (hJ:AbidesFrom B0 J)
  (hY:∀pre (x:It9) W,J pre W->pre++[x]<+:vis qs fr->YieldAt Fence.wide (n-1) Tryz.prog l (JV x) W fun e W'=>
   (e=.returned (.bool true)/\J (pre++[x]) W'/\Upd S W W')\/(e=.returned (.bool false)/\Jx (pre++[x]) W'))
  (W:World) (hbW:b<W.heap.size) (hBpW:Bp<W.heap.size) (hBs:W.cell? ⟨Bs,0,none⟩=some (.slice (some ⟨b,off,none⟩) qs.length cap)) (hcp:W.cell? ⟨Bp,0,none⟩=some (.int .i64 fr))
  (hc:∀j (h:j<qs.length),W.cell? ⟨b,off+j*2,none⟩=some (.int .i64 qs[j].1)/\W.cell? ⟨b,off+j*2+1,none⟩=some (.bool qs[j].2)) (h0:J [] W):
  CallsIn Fence.wide n Tryz.prog 217 #[.func (.yield l) #[] #[],.pointer (some ⟨Bs,0,none⟩),.pointer (some ⟨Bp,0,none⟩)] W fun e W'=>(∃v,e=.returned v)/\
   ((∃ys,ys=vis qs fr/\J ys W')\/(∃pre,pre<+:vis qs fr/\Jx pre W')):=by
 have hmix:Tryz.prog.follows .mixedOrders=true:=by kernel_rfl
 refine callsIn_of_wp Tryz.func217 rfl trivial ?_ rfl;simp only[Tryz.ntmps217,qXm,qze,qzh,Nat.reduceAdd,Nat.reduceSub,qxi,qxj,qXg,qxz,qzz,qya]
 gi_wp2
 refine wpIn_wide.2 (wp_scope_straight (wpIn_wide (n:=n).1 (wpIn_seq (wpIn_label ?_))))
 gi_wp2
 gi_loopw [8] (fun i wr=>∃k:Nat,k<=qs.length/\i=.int .i64 k/\J (visTo qs fr k) wr/\Upd S W wr)
  (fun i _=>qs.length-(intOf i).toNat)
 case atStart=>exact⟨0,qYf _,rfl,h0,uur _ _⟩
 case round=>
  obtain⟨k,hk,rfl,hJs,hnx⟩:=hrel;have hct':wr.cell? ⟨Bp,0,none⟩=some (.int .i64 fr):=(hnx.cellAt hBpW hBp).trans hcp;by_cases hlt:k<qs.length
  .have hc0:wr.cell? ⟨b,off+k*2,none⟩=some (.int .i64 qs[k].1):=(hnx.cellAt hbW hb).trans (hc k hlt).1;have hc1:wr.cell? ⟨b,off+k*2+1,none⟩=some (.bool qs[k].2):=(hnx.cellAt hbW hb).trans (hc k hlt).2;by_cases hq:qs[k]=(-1,false)
   .have HM:Hid (visTo qs fr (k+1)=visTo qs fr k):=vv hlt hq;rw[hq]at hc0 hc1;clear hq;have HP0:Hid ((wr.alloc (.cells #[.int .i64 (-1),.bool false] 95)).drew.cell? ⟨wr.heap.size,0,none⟩=some (.int .i64 (-1))):=za (zc wr _ rfl) 0;have HP1:Hid ((wr.alloc (.cells #[.int .i64 (-1),.bool false] 95)).drew.cell? ⟨wr.heap.size,1,none⟩=some (.bool false)):=za (zc wr _ rfl) 1
    gi_wp2
    gi_region_with_o (first|refine⟨trivial,fun _=>by omega,?_⟩|skip;gi_at_call 173;refine(callsIn_wide.2 (yR _)).mono ?_;rintro e w3 ⟨rfl,hu3,hz3⟩;have k0:=(hu3.cellAt (by simp) (fun h=>h)).trans HP0.o;have k1:=(hu3.cellAt (by simp) (fun h=>h)).trans HP1.o)
    all_goals
     have hu4:Upd (fun _=>False) wr w3:=((uur (fun _=>False) wr).alloc _).trans hu3.undrew;have HJ:=qqh (qo hJ hJs hu4);have HU:=qqh (hnx.trans (hu4.mono (S':=S) (fun _ _ h=>h.elim)));clear hu3 hz3 k0 k1 hu4
     gi_wp2
     go_roundw
     case rel=>exact⟨k+1,by omega,by simp,by rw[HM.o];exact HJ.o,HU.o⟩
     case measure=>simp[intOf];omega
   .have hs:0<=qs[k].1:=(hgood k hlt).resolve_left hq;have hsb:(qs[k].1== -1)=false:=by simp;omega
    have HM:Hid (visTo qs fr (k+1)=visTo qs fr k++[(fr+k,qs[k])]):=uG hlt hq;clear hq;have HP0:Hid ((wr.alloc (.cells #[.int .i64 qs[k].1,.bool qs[k].2] 95)).drew.cell? ⟨wr.heap.size,0,none⟩=some (.int .i64 qs[k].1)):=za (zc wr _ rfl) 0;have HP1:Hid ((wr.alloc (.cells #[.int .i64 qs[k].1,.bool qs[k].2] 95)).drew.cell? ⟨wr.heap.size,1,none⟩=some (.bool qs[k].2)):=za (zc wr _ rfl) 1
    gi_wp2
    gi_region_with_o (first|refine⟨trivial,fun _=>by omega,?_⟩|skip;gi_at_call 173;refine(callsIn_wide.2 (yR _)).mono ?_;rintro e w3 ⟨rfl,hu3,hz3⟩;have k0:=(hu3.cellAt (by simp) (fun h=>h)).trans HP0.o;have k1:=(hu3.cellAt (by simp) (fun h=>h)).trans HP1.o)
    all_goals
     have hu4:Upd (fun _=>False) wr w3:=((uur (fun _=>False) wr).alloc _).trans hu3.undrew;have HJ:=qqh (qo hJ hJs hu4);have hnx4:=hnx.trans (hu4.mono (S':=S) (fun _ _ h=>h.elim));have c4:w3.cell? ⟨Bp,0,none⟩=some (.int .i64 fr):=(hnx4.cellAt hBpW hBp).trans hcp;have HU:=qqh hnx4;obtain⟨fn,tmps,assign,body,hy,hR⟩:=hY _ (fr+k,qs[k]) w3 HJ.o (by rw[<-HM.o];exact vZ qs fr (by omega));simp only[JV,qxt]at hy;clear hu3 hz3 hu4 hnx4
     gi_wp2
     refine⟨fun _=>by omega,?_⟩;refine hR.mono ?_;rintro e W3 (⟨rfl,hJ3,hk3⟩|⟨rfl,hJx3⟩)
     .have HJ3:=qqh hJ3;have HU3:=qqh (HU.o.trans (hk3.mono (fun _ _ h=>h)));clear hJ3 hk3 hR
      gi_wp2
      go_roundw
      case rel=>exact⟨k+1,by omega,by simp,by rw[HM.o];exact HJ3.o,HU3.o⟩
      case measure=>simp[intOf];omega
     .clear hR
      gi_wp2
      rw[qxr];refine qYw (qZc rfl _ _ _) rfl ?_;exact⟨⟨_,rfl⟩,.inr ⟨_,by rw[<-HM.o];exact vZ qs fr (by omega),hJx3⟩⟩
  .obtain rfl:k=qs.length:=by omega
   gi_wp2
   rw[Exit.noGoto_normal]
   go_end0
   exact⟨⟨_,rfl⟩,.inl ⟨_,rfl,hJs⟩⟩
abbrev ItM(qs:List (Int×Bool))(fr:Nat):={x:It9//x∈vis qs fr}
theorem VV{L pre:List It9}{x:It9}(h:pre++[x]<+:L):x∈L/\pre.length<L.length:=by
 refine⟨h.subset (by simp),?_⟩;have:=h.length_le;simp at this;omega
theorem VW(n:Nat)(hn:2<=n)(S:Nat->Prop)(Bs Bp b off cap:Nat)(qs:List (Int×Bool))(fr:Nat)(w:World)(hle:qs.length<=4096)(hfr:fr<=4096)(hgood:∀k (h:k<qs.length),qs[k]=(-1,false)\/0<=qs[k].1)
  (hb:b<w.heap.size) (hBp:Bp<w.heap.size) (hBs:Bs<w.heap.size) (hbS:¬S b) (hBpS:¬S Bp)
  (hcs:w.cell? ⟨Bs,0,none⟩=some (.slice (some ⟨b,off,none⟩) qs.length cap)) (hcp:w.cell? ⟨Bp,0,none⟩=some (.int .i64 fr))
  (hc:∀j (h:j<qs.length),w.cell? ⟨b,off+j*2,none⟩=some (.int .i64 qs[j].1)/\w.cell? ⟨b,off+j*2+1,none⟩=some (.bool qs[j].2)):
  SeqStopsK Fence.wide n Tryz.prog 217 #[.pointer (some ⟨Bs,0,none⟩),.pointer (some ⟨Bp,0,none⟩)] (fun x:ItM qs fr=>JV x.1) (Upd S) (fun ys=>ys.map (·.1)=vis qs fr) (fun pre=>pre.map (·.1)<+:vis qs fr) (vis qs fr).length w:=fun l J Jx W hW hJ _ hY h0=>by
 refine(JX n hn S l Bs Bp b off cap qs fr hle hfr hgood hbS hBpS (fun ys X=>∃zs:List (ItM qs fr),zs.map (·.1)=ys/\J zs X) (fun ys X=>∃zs:List (ItM qs fr),zs.map (·.1)=ys/\Jx zs X) W.heap.size
  (fun ys X Y row h hg hr=>by obtain⟨zs,hz,h⟩:=h;exact⟨zs,hz,hJ zs X Y row h hg hr⟩) ?_ W (qXy hb hW.size) (qXy hBp hW.size) ((hW.cell (p:=⟨Bs,0,none⟩) hBs).trans hcs) ((hW.cell (p:=⟨Bp,0,none⟩) hBp).trans hcp)
  (fun j hj=>⟨(hW.cell (p:=⟨b,off+j*2,none⟩) hb).trans (hc j hj).1,(hW.cell (p:=⟨b,off+j*2+1,none⟩) hb).trans (hc j hj).2⟩) ⟨[],rfl,h0⟩).mono ?_
 .rintro pre x X ⟨zs,hz,hJz⟩ hp;obtain⟨hx,hl⟩:=VV hp;obtain⟨fn,tmps,assign,body,hy,hR⟩:=hY zs ⟨x,hx⟩ X hJz (by have:=congrArg List.length hz;simp at this;omega);refine⟨fn,tmps,assign,body,hy,hR.mono ?_⟩;rintro e Y (⟨h1,h2,h3⟩|⟨h1,h2⟩)
  .exact .inl ⟨h1,⟨_,by rw[qzl,hz];rfl,h2⟩,h3⟩
  .exact .inr ⟨h1,⟨_,by rw[qzl,hz];rfl,h2⟩⟩
 .rintro e Y ⟨hv,⟨ys,hys,zs,hz,h⟩|⟨ys,hys,zs,hz,h⟩⟩
  .exact ⟨hv,.inl ⟨zs,hz.trans hys,h⟩⟩
  .exact ⟨hv,.inr ⟨zs,by show List.map (fun x=>x.val) zs<+:vis qs fr;rw[hz];exact hys,h⟩⟩
attribute [local go_sem] qYh
def Jp(x:It9)(pb:Nat)(W:World):Prop:=W.heap[pb]?=some (.cells #[.int .i64 x.2.1,.bool x.2.2] 95 (0,0))
theorem Xx{X Y:World}{row:Option Nat}{b:Nat}{cs:Array Value}{T:TypeId}(h:X.heap[b]?=some (.cells cs T (0,0)))(hg:X.grownBy Y row)(hr:∀r,row=some r->∃o:Obj,X.heap[r]?=some o/\o.isCells=false):Y.heap[b]?=some (.cells cs T (0,0)):=
 (hg.block b (Array.getElem?_eq_some_iff.1 h).1 (fun e=>by
  obtain⟨o,ho,hc⟩:=hr b e.symm;rw[h]at ho;cases ho;simp[Obj.isCells]at hc)).trans h
theorem VX(B:Nat)(x:It9)(pb:Nat):OwnFrom B (fun(_:Unit) W=>Jp x pb W):=fun _ _ _ _ hs hg hr=>Xx hs hg (fun r e=>(hr r e).2)
end Go.Proofs.YtfhfbpmlnjdfoaaGreatDoor
namespace Go.Proofs.YtfhfbpmlnjdfoaaGreatDoor
open Go
def ub(o:Oper):Bool:=match o.op with
 | .defer _=>false
 |_=>true
theorem Ze{o:Oper}(h:ub o=true)(c:Call):o.op≠ .defer c:=by
 intro e;unfold ub at h;rw[e]at h;cases h
theorem qp(w:World)(d:Nat)(a c:Int)(b e:Bool):(Op.equalIn (d+1+1) 95 (.agg #[.int .i64 a,.bool b]) (.agg #[.int .i64 c,.bool e])).run Tryz.prog w=.ok (a==c&&b==e) w:=by
 have hu:=Tryz.underlying95;obtain⟨fs,hfs⟩:∃fs,Tryz.prog.underlying 95=some (.struct fs):=⟨_,hu⟩
 have hF:Tryz.prog.fieldsOf 95=fs:=by unfold Program.fieldsOf;rw[hfs]
 have hfe:=hfs.symm.trans hu;injection hfe with hfe
 injection hfe with hfe
 have h2:=fun(x y:Bool)=>run_equalIn_bool (P:=Tryz.prog) w d 4 x y Tryz.underlying4;rw[run_equalIn_struct w (d+1) _ _ _ (by rw[hF];exact hfs) (by kernel_rfl),hF,hfe];by_cases hac:a=c
 .simp [Op.eqFields,go_sem,h2,hac,Result.andThen];by_cases hbe:b=e<;>simp[hbe]
 .simp [Op.eqFields,go_sem,hac,Result.andThen]
section
variable{n l0:Nat}{P:Program}{ops:Array Oper}{Q:Exit->Act->World->Prop}
theorem Si{row:String}{args:Array Value}{w:World}{R:Value->World->Prop}(h:Go.Rows P row args w R):RowsIn (Fence.wide.inRound l0) n P row args w R:=
 fun c cs _=>let⟨v,w',r,s⟩:=h c cs;⟨v,w',r,stepsIn_wide.2 s⟩
theorem TM{f:FuncId}{args:Array Value}{w:World}{R:Ending->World->Prop}(h:Calls P f args w R):CallsIn (Fence.wide.inRound l0) n P f args w R:=
 CallsIn.inRound l0 (callsIn_wide.2 h)
theorem qq{o:Oper}{a:Act}{next:Act->World->Prop}{r:Result Next}(h:o.upon P a next Q r):o.uponIn (Fence.wide.inRound l0) n P a next Q r:=by
 unfold Oper.upon at h;split at h
 .exact h
 .exact h
 .exact h
 .exact ⟨(fun e=>by cases e),TM h⟩
 .exact ⟨(fun e=>by cases e),Si h⟩
 .exact h
 .exact h.elim
theorem qr(hQ:¬LetsOut Q)(hnd:∀(j:Nat) (o:Oper),ops[j]?=some o->ub o=true){i:Nat}{K K':Act->World->Prop}(hK:∀a w,K a w->K' a w){a:Act}{w:World}(h:wpOp P ops Q i K a w):
  wpOpIn (Fence.wide.inRound l0) n P ops Q i K' a w:=by
 have h':=wpOp_mono hK h;unfold wpOp at h';unfold wpOpIn;cases ho:ops[i]? with
 |none=>simp only[ho]at h'⊢;exact h'
 |some o=>
  have hnd':=hnd i o ho;simp only[ho]at h'⊢;by_cases hw:Region.wanted o (yielded ops a.tmps)=true
  .rw [if_pos hw]at h'⊢;rcases h' with h'|⟨-,h'⟩
   .refine ⟨fun _ _=>trivial,?_⟩;rw[show(Fence.wide.inRound l0).round=some l0 from rfl,qYh _ _ _ (Ze hnd')];exact qq h'
   .exact absurd h' hQ
  .rw [if_neg hw]at h'⊢;exact⟨fun _ _=>trivial,h'⟩
theorem xU(hQ:¬LetsOut Q)(md:Region.Mode)(hnd:∀(j:Nat) (o:Oper),ops[j]?=some o->ub o=true):∀(fuel:Nat) (listed:Array Bool) (a:Act) (w:World),
  wpAny P md ops Q fuel listed a w->wpAnyIn (Fence.wide.inRound l0) n P md ops Q fuel listed a w
 |0,_,_,_,h=>h
 |fuel+1,_,_,_,h=>⟨h.1,fun i hi=>qr hQ hnd (fun a' w' h'=>xU hQ md hnd fuel _ a' w' h') (h.2 i hi)⟩
theorem wk{S:World->Prop}{id:Nat}{a:Act}{w:World}{l:List Oper}(hQ:¬LetsOut Q)(hm:P.follows .mixedOrders=true)(hnd:l.all ub=true)(hS:S w.drew)
  (h:S w.drew->wpAnyH P .any l.toArray Q S l.toArray.size (Array.replicate l.toArray.size false) a w.drew):(Code.region id l.toArray true).wpIn (Fence.wide.inRound l0) n P Q a w:=
 wpIn_region_any hm (xU hQ .any (fun j o ho=>qxw.1 hnd o (by rw[qyv]at ho;exact List.mem_of_getElem? ho)) _ _ _ _ (wpAny_of_held _ _ _ _ (h hS)))
end
end Go.Proofs.YtfhfbpmlnjdfoaaGreatDoor
namespace Go.Proofs.YtfhfbpmlnjdfoaaGreatDoor
open Go Go.RowKit Go.Maps
theorem MapAt.look1{w:World}{mb N:Nat}{f:Int->Option Nat}(h:MapAt w mb N f){x:Int}(h1: -9223372036854775808<=x)(h2:x<9223372036854775808):
  (Instr.lookup 116 (.map (some mb)) (.int .i64 x) false).run Tryz.prog w=.ok (.int .i64 (((f x).getD 0:Nat):Int)) w:=by
 obtain⟨D,ho,hf⟩:=h;obtain⟨v,ps,hr,hv⟩:=ho.lookup yx Tryz.underlying116 (UQ w) (plainElem_int Tryz.underlying3 (by decide)) (tr h1 h2);obtain⟨c,rfl,hc,hwc⟩:=plainElem_int_inv Tryz.underlying3 hv;simp only[qYk]at hc;rw[hr];have:c=(((f x).getD 0:Nat):Int):=by
  cases hx:f x with
  |none=>
   have h0:=(hf x).1;rw[hx]at h0;have:=atKey_of_not_has (D:=D) h0 (.lit (.int .i64 0));rw[this]at hc;simp at hc;simpa using hc.1.symm
  |some c'=>
   have:=(hf x).2 c' hx (.lit (.int .i64 0));rw[this]at hc;simp at hc;simpa using hc.1.symm
 rw[this]
end Go.Proofs.YtfhfbpmlnjdfoaaGreatDoor
