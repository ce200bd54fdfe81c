/- A journal: Com -/
import Derived.Test.YtfhfbpmlnjdfoaaGreatDoorG11
set_option maxRecDepth 100000
set_option maxHeartbeats 4000000
namespace Go.Proofs.YtfhfbpmlnjdfoaaGreatDoor
open Go Go.RowKit Tryz
section
def comW(base n:Nat)(F:List Bk):List (Nat×Bk)->List (Nat×Bk)->List Int->DRes
 |[],O,P=>⟨F,O,P,0⟩
 |(s,y)::W,O,P=>if(writeR F O P (base+(s-1)%n) y).cd=0 then comW base n F W (writeR F O P (base+(s-1)%n) y).O (writeR F O P (base+(s-1)%n) y).P else writeR F O P (base+(s-1)%n) y
theorem yu(F:List Bk)(O:List (Nat×Bk))(P:List Int)(s:Nat)(y:Bk):(writeR F O P s y).F=F:=by
 unfold writeR;split;rfl;split<;>rfl
theorem wM(F:List Bk)(O:List (Nat×Bk))(P:List Int)(s:Nat)(y:Bk):(writeR F O P s y).O.length<=O.length+1:=by
 unfold writeR;split;simp;split<;>simp
theorem Qq(F:List Bk)(O:List (Nat×Bk))(P:List Int):(flushR F O P).O.length<=O.length:=by
 unfold flushR;split;simp;split<;>simp
theorem Wj(base n:Nat)(F:List Bk):∀(W O:List (Nat×Bk)) (P:List Int),(comW base n F W O P).F=F
 |[],_,_=>rfl
 |(s,y)::W,O,P=>by
  unfold comW;split
  .exact Wj base n F W _ _
  .exact yu _ _ _ _ _
theorem Wk(base n:Nat)(F:List Bk):∀(W O:List (Nat×Bk)) (P:List Int),(comW base n F W O P).O.length<=O.length+W.length
 |[],_,_=>by simp[comW]
 |(s,y)::W,O,P=>by
  have h1:=wM F O P (base+(s-1)%n) y;unfold comW;split
  .have:=Wk base n F W (writeR F O P (base+(s-1)%n) y).O (writeR F O P (base+(s-1)%n) y).P;simp only[qze];omega
  .simp only[qze];omega
abbrev zcw(g0:Nat):Value:=.func (.func 175) #[] #[.pointer (some ⟨g0,0,none⟩)]
theorem Ak{T:Nat->Prop}{w:World}{j d base n cov next:Nat}{vw:Value}{W:List (Nat×Bk)}(h:JnAt w j vw d base n cov next W)(h1:∀p∈W,1<=p.1){g0:Nat}(c0:w.cell? ⟨g0,0,none⟩=some (.pointer (some ⟨j,0,none⟩)))
  {F:List Bk} {O:List (Nat×Bk)} {P:List Int} (hd:Dv T w d F O P) (hn:∀k,w.heap.size<=k->T k) (hT:∀k,ED j vw k->¬T k) (hTg:¬T g0) (hbn:base+n<=F.length) (hO:O.length+W.length<=65536):
  Calls prog 174 #[vw,zcw g0] w (SK T w d (comW base n F W O P)):=by
 obtain⟨ao,c,rfl⟩:=h.ws.rd.jd;have H:=Y9 h h1 c0 hn hT hTg hbn hO hd;clear h h1 c0 hn hT hTg hbn hO hd;go_enter func174,ntmps174
 go_wp2
 go_step3
 go_wp2
 go_step3
 go_wp2
 go_loopw[5,10] (fun s5 s10 wr=>∃k O' P',k<=W.length/\s5=.int .i64 0/\s10=.int .i64 (k:Int)/\Dv T wr d F O' P'/\Upd T w wr/\comW base n F W O P=comW base n F (W.drop k) O' P'/\O'.length<=O.length+k) (fun _ s10 _=>W.length-(intOf s10).toNat)
 case atStart=>exact⟨0,O,P,qYf _,rfl,rfl,H.o.2.2.2.2.2.2.2.2,uur _ _,rfl,qXv _⟩
 case round=>
  obtain⟨k,O',P',hk,rfl,rfl,hd,hu,hcom,hOl⟩:=hrel;by_cases hlt:k<W.length
  .obtain ⟨h,h1,c0,hn,hT,hTg,hbn,hO,-⟩:=H.o;have h':=h.keep hu hT;obtain⟨g,off,cap,e1,hgl,hcap,hr⟩:=h'.range hlt;cases e1;have hp1:=h1 W[k] (qyz hlt);have hWl:W.length<=65536:=by omega
   have hlw:=h.good.lt W[k] (qyz hlt);have h64:=h.good.w64 W[k] (qyz hlt);have hdr:W.drop k=(W[k].1,W[k].2)::W.drop (k+1):=qyb hlt;have b1:(0:Int)<=(k:Int):=by omega
   have b2:(k:Int)<(W.length:Int):=by omega
   rw[hdr,comW]at hcom;obtain⟨s,hs⟩:=qqe (W[k].1);obtain⟨y,hy⟩:=qqe (W[k].2);rw[<-hs,<-hy]at hr hcom;rw[<-hs]at hp1 hlw;rw[<-hy]at h64;have hu2:Upd (fun _=>False) wr (wr.alloc (.cells (wrC (s:Int) y).toArray 289)):=(uur _ _).alloc _;have hr2:=zh (zc wr (.cells (wrC (s:Int) y).toArray 289) rfl);have hub:=hu.trans (hu2.mono (fun _ _ h=>h.elim));have hc:=zbv (h'.new hu2) (hub.ja c0 hTg) (hd.keep hu2 (fun _ _ h=>h)) (fun k hk=>hn k (qXx hub.size hk)) (hT j (.inl rfl)) hTg s hp1 hlw y h64 hbn (by omega);have hF:=yu F O' P' (base+(s-1)%n) y;have hO1:=wM F O' P' (base+(s-1)%n) y;generalize writeR F O' P' (base+(s-1)%n) y=r at*;have HC:=Y7 hc hub hF hO1 hcom hOl hk;clear h h' h1 c0 hn hT hTg hbn hO hu hd hc hub hF hO1 hcom hOl hs hy hdr hp1 hlw hgl hcap hu2 hk;go_wp2_with (first
    |refine qZg rfl _ _ rfl _ _ rfl _ _ hr underlying289 rfl (vO _ _ h64) ?_
    |refine qZg rfl _ _ rfl _ _ rfl _ _ hr2 underlying289 rfl (vO _ _ h64) ?_
    |(refine zk rfl _ _ _ rfl _ _ _ rfl rfl (by rw[tY,wrC_len,h64]) (vO _ _ h64) (vW _ _) ?_)
    |fail)
   refine HC.o.1.mono ?_;rintro e w3 ⟨rfl,hd3,hu3⟩;have H3:=Y2 hd3 hu3;clear hd3 hu3 hr hr2;by_cases hcd:r.cd=0
   .rw [hcd];go_wp2
    go_roundw
    case rel=>
     obtain⟨-,hub,hF,hO1,hcom,hOl,hk⟩:=HC.o;have hd3:=H3.o.1;rw[hF]at hd3;rw[if_pos hcd]at hcom;exact⟨k+1,r.O,r.P,by omega,rfl,by go_num,hd3,hub.trans H3.o.2,hcom,by omega⟩
    case measure=>simp[intOf];omega
   .have q0:(r.cd==0)=false:=by simpa using hcd
    go_wp2
    go_ret
    obtain⟨-,hub,hF,hO1,hcom,hOl,hk⟩:=HC.o;rw[if_neg hcd]at hcom;rw[hcom];exact⟨rfl,H3.o.1,hub.trans H3.o.2⟩
  .obtain rfl:k=W.length:=by omega
   have HC:=Y3 hd hu hcom;clear hd hu hcom hk hOl;go_wp2
   go_ret
   obtain⟨hd,hu,hcom⟩:=HC.o;rw[hcom,List.drop_length];exact⟨rfl,hd,hu⟩
open Go Go.RowKit Go.Shelf Tryz
attribute [local go_sem] qYh
def wrsR(F:List Bk):List (Nat×Bk)->List (Nat×Bk)->List Int->DRes
 |[],O,P=>⟨F,O,P,0⟩
 |(s,y)::L,O,P=>if(writeR F O P s y).cd=0 then wrsR F L (writeR F O P s y).O (writeR F O P s y).P else writeR F O P s y
theorem uS(F:List Bk)(L:List (Nat×Bk)):∀O P,(wrsR F L O P).F=F:=by
 induction L with
 |nil=>intro O P;rfl
 |cons x L ih=>
  intro O P;simp only[wrsR];split
  .exact ih _ _
  .exact yu _ _ _ _ _
theorem Qr(F:List Bk)(L:List (Nat×Bk)):∀O P,(wrsR F L O P).O.length<=O.length+L.length:=by
 induction L with
 |nil=>intro O P;simp[wrsR]
 |cons x L ih=>
  intro O P;have h1:=wM F O P x.1 x.2;simp only[wrsR,qze];split
  .have:=ih (writeR F O P x.1 x.2).O (writeR F O P x.1 x.2).P;omega
  .omega
theorem wrsR_yes{F:List Bk}{x:Nat×Bk}{L O:List (Nat×Bk)}{P:List Int}(h:(writeR F O P x.1 x.2).cd=0):wrsR F (x::L) O P=wrsR F L (writeR F O P x.1 x.2).O (writeR F O P x.1 x.2).P:=by
 simp only[wrsR];exact if_pos h
theorem tZ{F:List Bk}{x:Nat×Bk}{L O:List (Nat×Bk)}{P:List Int}(h:¬(writeR F O P x.1 x.2).cd=0):wrsR F (x::L) O P=writeR F O P x.1 x.2:=by
 simp only[wrsR];exact if_neg h
theorem UF(F:List Bk)(L:List (Nat×Bk))(s:Nat)(y:Bk):∀O P,wrsR F (L++[(s,y)]) O P=if(wrsR F L O P).cd=0 then writeR F (wrsR F L O P).O (wrsR F L O P).P s y else wrsR F L O P:=by
 induction L with
 |nil=>
  intro O P;simp only[qzz,wrsR,if_true];split
  .next h=>
   have hF:=yu F O P s y;generalize writeR F O P s y=r at*;obtain⟨rF,rO,rP,rc⟩:=r;simp only at hF h;subst hF h;rfl
  .rfl
 |cons x L ih=>
  intro O P;rw[qya];by_cases h:(writeR F O P x.1 x.2).cd=0
  .rw [wrsR_yes h,wrsR_yes h];exact ih _ _
  .rw [tZ h,tZ h,if_neg h]
theorem Qs(F:List Bk)(L L':List (Nat×Bk)):∀O P,(wrsR F L O P).cd≠0->wrsR F (L++L') O P=wrsR F L O P:=by
 induction L with
 |nil=>intro O P h;exact absurd rfl h
 |cons x L ih=>
  intro O P;rw[qya];by_cases h:(writeR F O P x.1 x.2).cd=0
  .rw [wrsR_yes h,wrsR_yes h];exact ih _ _
  .rw [tZ h,tZ h];exact fun _=>rfl
theorem Je{base m k:Nat}(B:List Bk)(h:k<=m):∃L',ckO base m B=ckO base k B++L':=by
 refine⟨((List.range m).drop k).map (Yl base B),?_⟩;rw[ckO,ckO,<-qzl]
 congr 1
 rw[show List.range k=(List.range m).take k by rw[List.take_range,Nat.min_eq_left h]];exact(qXo k _).symm
def PwI(T:Nat->Prop)(w5:World)(b:Nat)(F:List Bk)(O:List (Nat×Bk))(P:List Int)(base:Nat){m:Nat}(B:List Bk)(pre:List {i:Nat//i<m})(W:World):Prop:=
 (wrsR F (pre.map (fun x=>Yl base B x.1)) O P).cd=0/\Dv T W b F (wrsR F (pre.map (fun x=>Yl base B x.1)) O P).O (wrsR F (pre.map (fun x=>Yl base B x.1)) O P).P/\Upd T w5 W
def PwX(T:Nat->Prop)(w5:World)(b:Nat)(F:List Bk)(O:List (Nat×Bk))(P:List Int)(base:Nat){m:Nat}(B:List Bk)(rb:Nat)(c:Code)(pre:List {i:Nat//i<m})(W:World):Prop:=
 c=.ret/\(wrsR F (pre.map (fun x=>Yl base B x.1)) O P).cd≠0/\Dv T W b F (wrsR F (pre.map (fun x=>Yl base B x.1)) O P).O (wrsR F (pre.map (fun x=>Yl base B x.1)) O P).P/\Upd (fun j=>T j\/j=rb) w5 W/\
  W.heap[rb]?=some (.cells #[.int .i64 (wrsR F (pre.map (fun x=>Yl base B x.1)) O P).cd] 28 (0,0))
theorem Qt{T:Nat->Prop}{S:Nat->Prop}{w w5 W W':World}{b rb D:Nat}{F:List Bk}{O:List (Nat×Bk)}{P:List Int}(hrb:w.heap.size<=rb)(hD:w5.heap.size<=D)(_hw5:w.heap.size<=w5.heap.size)(hrb5:rb<w5.heap.size)
  (hT:T=fun j=>(S j/\j<w.heap.size)\/w5.heap.size<=j) (hn:∀j,w.heap.size<=j->S j) (hU:Upd (fun _=>False) w w5) (hd:Dv T W b F O P) (hu:Upd (fun j=>T j\/j=rb) w5 W) {v:Value}
  (hG:W.heap[rb]?=some (.cells #[v] 28 (0,0))) (hK:W.heap[D]?=some (.deferred (some []))) (hW':W'=W.putObj D (.deferred none)):
  W'.cell? ⟨rb,0,none⟩=some v/\Dv S W' b F O P/\Upd S w W':=by
 have hDl:=zf hK;have hW:=wH (S:=fun j=>w5.heap.size<=j) (M:=w5.heap.size) (fun j h=>h) W D _ (.deferred none) hD hK rfl rfl;subst hW';refine⟨za ((hW.block _ (zf hG) (by omega)).trans hG) 0,?_,?_⟩
 .have h2:=hd.grown (grownBy_putObj' W D (.deferred none)) (fun r e=>by cases e;exact⟨_,hK,rfl⟩);exact h2.wide (fun j hj=>by
   rw[hT]at hj;rcases hj with hj|hj
   .exact hj.1
   .exact hn j (by omega))
 .have hX:Upd (fun j=>T j\/j=rb\/w5.heap.size<=j) w5 (W.putObj D (.deferred none)):=(hu.mono (fun j _ h=>h.imp id .inl)).trans (hW.mono (fun _ _ h=> .inr (.inr h)));refine(hU.mono (fun _ _ h=>h.elim)).new hX (fun i hi hs=>?_);rcases hs with hs|hs|hs
  .rw [hT]at hs;rcases hs with hs|hs
   .exact hs.1
   .omega
  .omega
  .omega
theorem Jf{S:Nat->Prop}{w:World}{b:Nat}{F:List Bk}{O:List (Nat×Bk)}{P:List Int}(hd:Dv S w b F O P)(hn:∀j,w.heap.size<=j->S j)(base m seq:Nat)(lo:Option Addr)(n lc:Nat)(E:List Ent)(hEn:E.length=n)(hnm:needN n<=m)(hn1:n<=100000)
  (hbm:base+m<=F.length) (hO:O.length+m<65536) (hbuild:∀W,Below w.heap.size w W->Calls prog 191 #[.int .i64 (seq:Int),.slice lo n lc] W (xl W seq E)):
  Calls prog 120 #[.pointer (some ⟨b,0,none⟩),.int .i64 (base:Int),.int .i64 (m:Int),.int .i64 (seq:Int),.slice lo n lc] w (SK S w b (wrsR F (ckO base m (pagesB seq E)) O P)):=by
 subst hEn;have hm1:1<=m:=by unfold needN at hnm;omega
 have hfl:=hd.good.fl;have q1:decide (m<needN E.length)=false:=by simp;omega
 obtain⟨w2,hw2⟩:=qqe ((w.alloc (.cells #[.pointer (some ⟨b,0,none⟩)] 46)).alloc (.cells #[.int .i64 0] 28));have hu2:Upd (fun _=>False) w w2:=by rw[hw2];exact((uur _ w).alloc _).alloc _
 have hd2:=hd.new hu2;have hb2:Below w.heap.size w w2:=Upd.below hu2;have hz2:w2.heap.size=w.heap.size+2:=by rw[hw2];simp
 have hg0:w2.heap[w.heap.size]?=some (.cells #[.pointer (some ⟨b,0,none⟩)] 46):=by
  rw[hw2];exact(qxk _ _ _ (by simp)).trans (zc w _ rfl)
 have hg1:w2.heap[w.heap.size+1]?=some (.cells #[.int .i64 0] 28):=by
  rw[hw2];exact zc _ _ (by simp)
 have H:=Y11 hd hn True.intro hnm hbuild hu2 hd2 hb2 hz2 hg0 hg1;clear hd hn hnm hbuild hu2 hb2 hz2 hg0 hg1;refine(callsIn_wide (n:=3)).1 ?_;refine callsIn_of_wp_marks func120 rfl trivial ?_ rfl;simp only[ntmps120,qXm,qze,qzh,Nat.reduceAdd,Nat.reduceSub,qxi,qxj,qXg,qxz,qzz,qya]
 gi_wp2_with (first
  |(refine⟨trivial,?_⟩;gi_at_call 97;rw[<-hw2];refine(callsIn_wide.2 (Qa hd2 base m hm1 hbm)).mono ?_;rintro e w' ⟨rfl,rfl⟩)
  |(refine⟨trivial,?_⟩;gi_at_call 54;refine(callsIn_wide.2 (qL E.length hn1 _)).mono ?_;rintro e w' ⟨rfl,rfl⟩)
  |fail)
 refine⟨trivial,?_⟩;rw[<-hw2];refine(callsIn_wide.2 (H.o.2.2.2.2.1 w2 H.o.2.2.2.2.2.2.2.1)).mono ?_;rintro e w3 ⟨vB,rfl,hslB,hfB,hbB⟩;obtain⟨ao,cc,rfl⟩:=hslB.rd.jd;have hu23:=qqb hbB;obtain⟨w4,hw4⟩:=qqe (w3.alloc (.cells #[.slice ao (needN E.length) cc] 41));have hu34:=qqu hw4;have hg2:=qqg hw4;have hz4:w4.heap.size=w3.heap.size+1:=by rw[hw4];simp
 have H3:=Y6 hslB hfB hu23 hu34 hg2 hz4;clear hslB hfB hbB hu23 hu34 hg2 hz4 hw2 q1 hd2
 gi_wp2_with (first
  |(refine⟨trivial,?_⟩;gi_at_call 98;rw[<-hw4];refine(callsIn_wide.2 (tw (base:Int) (m:Int) w4)).mono ?_;rintro e w5 ⟨rfl,hw5⟩)
  |fail)
 have hu45:Upd (fun _=>False) w4 w5:=by rw[hw5];exact((uur _ w4).alloc _).alloc _
 have hz5:w5.heap.size=w4.heap.size+2:=by rw[hw5];simp
 have hcb:w5.cell? ⟨w4.heap.size,0,none⟩=some (.int .i64 (base:Int)):=by
  rw[hw5];exact(za ((qxk _ _ _ (by simp)).trans (zc w4 _ rfl)) 0)
 have hcm:w5.cell? ⟨w4.heap.size+1,0,none⟩=some (.int .i64 (m:Int)):=by
  rw[hw5];exact(za (zc _ _ (by simp)) 0)
 obtain⟨hd,hn,-,hnm,hbuild,hu2,hd2,hb2,hz2,hg0,hg1⟩:=H.o;obtain⟨hslB,hfB,hu23,hu34,hg2,hz4⟩:=H3.o;have hu25:Upd (fun _=>False) w2 w5:=(hu23.trans hu34).trans hu45;have hs3:=hu23.size;obtain⟨T,hT⟩:∃T:Nat->Prop,T=fun j=>(S j/\j<w.heap.size)\/w5.heap.size<=j:=⟨_,rfl⟩
 have hTn:∀j,w5.heap.size<=j->T j:=fun j hj=>by rw[hT];exact .inr hj
 have hTo:∀j,w.heap.size<=j->j<w5.heap.size->¬T j:=fun j h1 h2 h=>by rw[hT]at h;rcases h with h|h<;>omega
 have hd5:Dv T w5 b F O P:=((hd.jF (T:=fun j=>S j/\j<w.heap.size) (fun j h1 h2=>⟨h1,h2⟩)).new (hu2.trans hu25)).wide (fun j h=>by rw[hT];exact .inl h);have hG0:=hu25.jc hg0;have hG1:=hu25.jc hg1;have hG2:=hu45.jc hg2;have hsl5:=hslB.keep (hu34.trans hu45) (fun _ _ h=>h);have HU:=qqh (hu2.trans hu25);have H5:=Y8 hd5 hTn hTo hG0 hG1 hG2 hsl5 hT;have b64:=We seq E (needN E.length);clear hd hn hnm hbuild hu2 hd2 hb2 hg0 hg1 hslB hu23 hu34 hu45 hg2 hu25 hd5 hG0 hG1 hG2 hsl5 hT;rw[<-hw4,<-hw5];rw[hz4]at hcb hcm;clear hw4 hw5
 refine' wpIn_rangeFunc_ownF rfl (by omega) (gf:=171) (lb:= #[.pointer (some ⟨w3.heap.size+1+1,0,none⟩),.pointer (some ⟨w3.heap.size+1,0,none⟩)]) rfl trivial (enters_of func171 (by kernel_rfl) rfl)
  (sF _ (by omega) T (w3.heap.size+1+1) (w3.heap.size+1) base m w5 (by omega) (by omega) (by omega) (by omega) (hTo _ (by omega) (by omega)) (hTo _ (by omega) (by omega)) hcm hcb) uH (fun W l o o' hl=>wH (M:=w5.heap.size) hTn W l o o' hl) (qxl _ _) (fun _=>rfl)
  (PwI T w5 b F O P base (pagesB seq E))
  (PwX T w5 b F O P base (pagesB seq E) (w.heap.size+1))
  (fun pre X Y row hs hg hr=>⟨hs.1,hs.2.1.grown hg (fun r e=>(hr r e).2),xk hs.2.2 hg (fun r e=>hTn r (hr r e).1)⟩)
  (fun cc pre X Y row hs hg hr=>⟨hs.1,hs.2.1,hs.2.2.1.grown hg (fun r e=>(hr r e).2),xk hs.2.2.2.1 hg (fun r e=> .inl (hTn r (hr r e).1)),(grownBy_keeps_cells hg (fun r e=>(hr r e).2) hs.2.2.2.2 rfl).trans hs.2.2.2.2⟩)
  ⟨rfl,H5.o.1,uur _ _⟩
  _ ?assign ?body ?done ?stop
 case assign=>
  intro l x W K hK
  gi_wp2
  exact hK
 case body=>
  rintro l pre ⟨i,hi⟩ W ⟨hcd,hv,hu⟩ hlt;obtain⟨-,-,-,hG0,hG1,hG2,hsl5,-⟩:=H5.o;have hG0:=(hu.block _ (zf hG0) (hTo _ (by omega) (by omega))).trans hG0;have hG1:=(hu.block _ (zf hG1) (hTo _ (by omega) (by omega))).trans hG1;have hG2:=(hu.block _ (zf hG2) (hTo _ (by omega) (by omega))).trans hG2;have hsl:=hsl5.keep hu (fun j hj=>hTo j (by have:=hfB j hj;omega) (hsl5.lt hj));have c0:W.cell? ⟨w.heap.size,0,none⟩=some (.pointer (some ⟨b,0,none⟩)):=za hG0 0;have c2:W.cell? ⟨w3.heap.size,0,none⟩=some (.slice ao (needN E.length) cc):=za hG2 0;have hl0:=zf hG0;have hl2:=zf hG2;obtain⟨y,hy⟩:=qqe ((pagesB seq E).getD i zB);have hyl:(bkC y).length=64:=by
   rw[zn,hy];by_cases h:i<(pagesB seq E).length
   .rw [qyh,qyn h];exact b64 _ (qyz h)
   .rw [qyh,qyo (by omega)];rfl
  have hy64:Hid ((prog.info? 54).map (·.size)=some (bkC y).length):=by show _=_;rw[hyl];exact zM
  have hrO:=Qr F (pre.map (fun x=>Yl base (pagesB seq E) x.1)) O P;rw[qzg]at hrO;have hsn:=UF F (pre.map (fun x=>Yl base (pagesB seq E) x.1)) (base+i) y O P;rw[if_pos hcd]at hsn;have hpm:(pre++[(⟨i,hi⟩:{i:Nat//i<m})]).map (fun x=>Yl base (pagesB seq E) x.1)=pre.map (fun x=>Yl base (pagesB seq E) x.1)++[(base+i,y)]:=by
   rw[qzl,hy];rfl
  rw[<-hpm]at hsn;generalize wrsR F (pre.map (fun x=>Yl base (pagesB seq E) x.1)) O P=r0 at*;obtain⟨rF,rO,rP,rc⟩:=r0;simp only at hcd hv hrO hsn;obtain⟨S0,h0,hs0,hcs0⟩:=hv.exact;obtain⟨W1,hW1⟩:=qqe (W.alloc (.cells (bkC y).toArray 54));have hu1:=qqu hW1;have hg1:=qqg hW1;have rA:=zh hg1;have hz1:W1.heap.size=W.heap.size+1:=by rw[hW1];simp
  have hwr:=wZ (S:=fun j=>S0 j\/W1.heap.size<=j) ((h0.new hu1).wide (fun _ h=> .inl h)) (fun _ h=> .inr h) (base+i) (by omega) y (by rw[<-zn];exact hyl) (by omega);have hR:writeR F rO rP (base+i) y=writeR F rO rP (base+i) y:=rfl;have hRF:=yu F rO rP (base+i) y;generalize hrr:writeR F rO rP (base+i) y=r at*;clear hR;have HB:=Y11 hv hu hsl hy hyl h0 hs0 hcs0 hW1 hu1 hz1;have HG1:=Y3 hG1 hsn hRF;have c10:W1.cell? ⟨w.heap.size,0,none⟩=some (.pointer (some ⟨b,0,none⟩)):=hu1.ja c0 (fun h=>h);have HW:=Y2 hwr c10;clear hv hu hsl hG0 hG1 hG2 hsl5 hy hyl h0 hs0 hcs0 hu1 hg1 hwr hz1 c10 hcd hrO hsn hpm hrr hRF;clear hG0 hG1 hG2;rw[hW1]at rA;obtain⟨rcd,hrcd⟩:=qqe (r.cd);replace hrcd:=qqh hrcd;by_cases hlt2:i<needN E.length
  .obtain ⟨g,off,cap,cur,e1,hg,hz,hc⟩:=HB.o.2.2.1.at (by omega);cases e1;have hBl:(pagesB seq E).length=needN E.length:=xf _ _ _;have hr:=sC (F:=pagesB seq E) b64 hg hc (i:=i) (by omega);have hyi:(pagesB seq E)[i]'(by omega)=y:=by rw[HB.o.2.2.2.1,qyh,qyn (by omega)];rfl
   rw[hyi]at hr;have hr2:=qYp hr (.cells (bkC zB).toArray 54);clear hg hz hc hyi hr
   gi_wp2_with (first
    |(refine yI rfl _ _ rfl _ _ rfl _ _ hr2 underlying54 rfl hy64.out ?_)
    |(refine yI rfl _ _ rfl _ _ rfl _ _ rA underlying54 rfl hy64.out ?_)
    |(refine xt rfl _ _ _ rfl _ _ _ rfl rfl (by rw[HB.o.2.2.2.2.1];rfl) hy64.out (zv y) ?_)
    |fail)
   refine⟨trivial,?_⟩;rw[show((base:Int)+(i:Int))=((base+i:Nat):Int) by simp,<-hW1];clear hW1 rA c0 c2;refine(CallsIn.inRound l (callsIn_wide.2 HW.o.1)).mono ?_;rintro e W2 ⟨rfl,hd2,hu2⟩;have hl1:w.heap.size+1<W2.heap.size:=by have:=hu2.size;have:=zf HG1.o.1;have:=HB.o.2.2.2.2.2.2.2.2.2.2;omega
   have hG1':W2.heap[w.heap.size+1]?=some (.cells #[.int .i64 0] 28):=by
    have hG1:=HG1.o.1;have hl:=zf hG1;refine(hu2.block _ (by have:=HB.o.2.2.2.2.2.2.2.2.2.2;omega) (fun hs=>?_)).trans (HB.o.2.2.2.2.2.2.2.2.2.1.jc hG1);rcases hs with hs|hs
    .exact hTo _ (by omega) (by omega) (HB.o.2.2.2.2.2.2.1 _ hs)
    .have:=HB.o.2.2.2.2.2.2.2.2.2.2;omega
   have f1:=zg hG1' 0;have c1':=za hG1' 0;have HD:=Y3 hd2 hu2 hG1';clear hd2 hu2 hG1';rw[<-hrcd.out];by_cases hc:rcd=0
   .have HZ:=qqh (hc▸hrcd.out:0=r.cd);subst hc
    gi_wp2
    obtain⟨hv,hu,hsl,hy,hyl,h0,hs0,hcs0,hW1,hu1,hz1⟩:=HB.o;obtain⟨hd2,hu2,hG1'⟩:=HD.o;have hsz:=hu.size;have hK1:KeepsOthers W W1:=by rw[hW1];exact KeepsOthers.alloc W _
    have hT2:Upd T W W2:=(hu1.mono (fun _ _ h=>h.elim)).trans (hu2.mono (fun j _ hj=>hj.elim (fun h=>hs0 j h) (fun h=>hTn j (by omega))));refine⟨hK1.trans (zy hu2 (fun j hj hl=>?_)),hT2,?_,?_,hu.trans hT2⟩
    .rcases hj with hj|hj
     .obtain ⟨cs,t,z,hc⟩:=hcs0 j hj;exact⟨cs,t,z,hu1.jc hc⟩
     .omega
    .rw [HG1.o.2.1];exact HZ.o.symm
    .rw [HG1.o.2.1];have:=hd2.wide (T:=T) (fun j hj=>hj.elim (fun h=>hs0 j h) (fun h=>hTn j (by omega)));rw[HG1.o.2.2]at this;exact this
   .have q0:(rcd==0)=false:=by simpa using hc
    gi_wp2
    obtain⟨hv,hu,hsl,hy,hyl,h0,hs0,hcs0,hW1,hu1,hz1⟩:=HB.o;obtain⟨hd2,hu2,hG1'⟩:=HD.o;have hsz:=hu.size;have hK1:KeepsOthers W W1:=by rw[hW1];exact KeepsOthers.alloc W _
    have hT2:Upd T W W2:=(hu1.mono (fun _ _ h=>h.elim)).trans (hu2.mono (fun j _ hj=>hj.elim (fun h=>hs0 j h) (fun h=>hTn j (by omega))));have hus:=zj W2 (w.heap.size+1) 0 (.int .i64 rcd);have hne:¬T (w.heap.size+1):=hTo _ (by omega) (by have:=H5.o.2.2.2.2.1;have:=zf this;omega);refine⟨(hK1.trans (zy hu2 (fun j hj hl=>?_))).trans (zy hus (fun j hj _=>⟨_,_,_,hj▸hG1'⟩)),rfl,?_,?_,?_,?_⟩
    .rcases hj with hj|hj
     .obtain ⟨cs,t,z,hc⟩:=hcs0 j hj;exact⟨cs,t,z,hu1.jc hc⟩
     .omega
    .rw [HG1.o.2.1,<-hrcd.out];exact hc
    .rw [HG1.o.2.1];have:=hd2.wide (T:=T) (fun j hj=>hj.elim (fun h=>hs0 j h) (fun h=>hTn j (by omega)));rw[HG1.o.2.2]at this;exact this.keep hus (fun j hj e=>hne (e▸hj))
    .exact ((hu.trans hT2).mono (fun _ _ h=> .inl h)).trans (hus.mono (fun _ _ h=> .inr h))
    .rw [HG1.o.2.1,<-hrcd.out];exact zi hG1' 0 (.int .i64 rcd)
  .have hyz:y=zB:=by
    have hBl:(pagesB seq E).length=needN E.length:=xf _ _ _;rw[HB.o.2.2.2.1,qyh,qyo (by omega)];rfl
   gi_wp2_with fail
   rw[EX,<-hyz];clear hyz;refine vD _ _ rfl _ _ rfl _ _ rA underlying54 rfl hy64.out ?_
   gi_wp2_with fail
   refine⟨trivial,?_⟩;rw[show((base:Int)+(i:Int))=((base+i:Nat):Int) by simp,<-hW1];clear hW1 rA c0 c2;refine(CallsIn.inRound l (callsIn_wide.2 HW.o.1)).mono ?_;rintro e W2 ⟨rfl,hd2,hu2⟩;have hl1:w.heap.size+1<W2.heap.size:=by have:=hu2.size;have:=zf HG1.o.1;have:=HB.o.2.2.2.2.2.2.2.2.2.2;omega
   have hG1':W2.heap[w.heap.size+1]?=some (.cells #[.int .i64 0] 28):=by
    have hG1:=HG1.o.1;have hl:=zf hG1;refine(hu2.block _ (by have:=HB.o.2.2.2.2.2.2.2.2.2.2;omega) (fun hs=>?_)).trans (HB.o.2.2.2.2.2.2.2.2.2.1.jc hG1);rcases hs with hs|hs
    .exact hTo _ (by omega) (by omega) (HB.o.2.2.2.2.2.2.1 _ hs)
    .have:=HB.o.2.2.2.2.2.2.2.2.2.2;omega
   have f1:=zg hG1' 0;have c1':=za hG1' 0;have HD:=Y3 hd2 hu2 hG1';clear hd2 hu2 hG1';rw[<-hrcd.out];by_cases hc:rcd=0
   .have HZ:=qqh (hc▸hrcd.out:0=r.cd);subst hc
    gi_wp2
    obtain⟨hv,hu,hsl,hy,hyl,h0,hs0,hcs0,hW1,hu1,hz1⟩:=HB.o;obtain⟨hd2,hu2,hG1'⟩:=HD.o;have hsz:=hu.size;have hK1:KeepsOthers W W1:=by rw[hW1];exact KeepsOthers.alloc W _
    have hT2:Upd T W W2:=(hu1.mono (fun _ _ h=>h.elim)).trans (hu2.mono (fun j _ hj=>hj.elim (fun h=>hs0 j h) (fun h=>hTn j (by omega))));refine⟨hK1.trans (zy hu2 (fun j hj hl=>?_)),hT2,?_,?_,hu.trans hT2⟩
    .rcases hj with hj|hj
     .obtain ⟨cs,t,z,hc⟩:=hcs0 j hj;exact⟨cs,t,z,hu1.jc hc⟩
     .omega
    .rw [HG1.o.2.1];exact HZ.o.symm
    .rw [HG1.o.2.1];have:=hd2.wide (T:=T) (fun j hj=>hj.elim (fun h=>hs0 j h) (fun h=>hTn j (by omega)));rw[HG1.o.2.2]at this;exact this
   .have q0:(rcd==0)=false:=by simpa using hc
    gi_wp2
    obtain⟨hv,hu,hsl,hy,hyl,h0,hs0,hcs0,hW1,hu1,hz1⟩:=HB.o;obtain⟨hd2,hu2,hG1'⟩:=HD.o;have hsz:=hu.size;have hK1:KeepsOthers W W1:=by rw[hW1];exact KeepsOthers.alloc W _
    have hT2:Upd T W W2:=(hu1.mono (fun _ _ h=>h.elim)).trans (hu2.mono (fun j _ hj=>hj.elim (fun h=>hs0 j h) (fun h=>hTn j (by omega))));have hus:=zj W2 (w.heap.size+1) 0 (.int .i64 rcd);have hne:¬T (w.heap.size+1):=hTo _ (by omega) (by have:=H5.o.2.2.2.2.1;have:=zf this;omega);refine⟨(hK1.trans (zy hu2 (fun j hj hl=>?_))).trans (zy hus (fun j hj _=>⟨_,_,_,hj▸hG1'⟩)),rfl,?_,?_,?_,?_⟩
    .rcases hj with hj|hj
     .obtain ⟨cs,t,z,hc⟩:=hcs0 j hj;exact⟨cs,t,z,hu1.jc hc⟩
     .omega
    .rw [HG1.o.2.1,<-hrcd.out];exact hc
    .rw [HG1.o.2.1];have:=hd2.wide (T:=T) (fun j hj=>hj.elim (fun h=>hs0 j h) (fun h=>hTn j (by omega)));rw[HG1.o.2.2]at this;exact this.keep hus (fun j hj e=>hne (e▸hj))
    .exact ((hu.trans hT2).mono (fun _ _ h=> .inl h)).trans (hus.mono (fun _ _ h=> .inr h))
    .rw [HG1.o.2.1,<-hrcd.out];exact zi hG1' 0 (.int .i64 rcd)
 case done=>
  rintro D ys W hD hys ⟨hcd,hv,hu⟩ hK;obtain⟨-,-,-,-,hG1,-,-,hT⟩:=H5.o;have hG1:=(hu.block _ (zf hG1) (hTo _ (by omega) (by omega))).trans hG1;have c1:=za hG1 0;have f1:=zg hG1 0;have hyO:(ckO base m (pagesB seq E))=ys.map (fun x=>Yl base (pagesB seq E) x.1):=by
   rw[ckO,<-hys,qzn];rfl
  rw[<-hyO]at hcd hv;have hF:=uS F (ckO base m (pagesB seq E)) O P;generalize wrsR F (ckO base m (pagesB seq E)) O P=r at*;have HV:=Y7 hv hu hcd hK hG1 hT hF;have hl1:=zf hG1;clear hv hu hyO hG1 hT hcd hF
  gi_wp2
  obtain⟨hv,hu,hcd,hK,hG1,hT,hF⟩:=HV.o;have hus:=zj W (w.heap.size+1) 0 (.int .i64 0);have hK2:(W.setCell ⟨w.heap.size+1,0,none⟩ (.int .i64 0)).heap[D]?=some (.deferred (some [])):=(hus.block D (zf hK) (by omega)).trans hK;have hG2:=zi hG1 0 (.int .i64 0);refine⟨by simp,.inl ⟨_,_,rfl,run_takeDeferred hK2,?_⟩⟩;have h1:=hv.keep hus (fun j hj e=>hTo j (by omega) (by omega) hj);obtain⟨e1,e2,e3⟩:=Qt (rb:=w.heap.size+1) (by omega) hD (by omega) (by omega) hT H.o.2.1 HU.o h1 ((hu.mono (fun _ _ h=> .inl h)).trans (hus.mono (fun _ _ h=> .inr h))) hG2 hK2 rfl;refine⟨.int .i64 0,by simp[results,results120,go_sem,e1],?_,?_,e3⟩
  .rw [hcd]
  .rw [hF];exact e2
 case stop=>
  rintro D c pre W hD hpre ⟨rfl,hcd,hv,hu,hG⟩ hK;have hT:=H5.o.2.2.2.2.2.2.2;have hk:pre.length<=m:=by
   refine Decidable.byContradiction fun hlt=>?_;have hm':m∈pre.map (·.1):=by rw[hpre];exact qzx.2 (by omega)
   obtain⟨x,-,hx⟩:=qzv.1 hm';have:=x.2;omega
  obtain⟨L',hL'⟩:=Je (base:=base) (pagesB seq E) hk;have hyO:(ckO base pre.length (pagesB seq E))=pre.map (fun x=>Yl base (pagesB seq E) x.1):=by
   rw[ckO,<-hpre,qzn];rfl
  have hfull:wrsR F (ckO base m (pagesB seq E)) O P=wrsR F (pre.map (fun x=>Yl base (pagesB seq E) x.1)) O P:=by
   rw[hL',hyO];exact Qs _ _ _ _ _ hcd
  have hF:=uS F (ckO base m (pagesB seq E)) O P;rw[<-hfull]at hcd hv hG;generalize wrsR F (ckO base m (pagesB seq E)) O P=r at*;clear hfull;obtain⟨e1,e2,e3⟩:=Qt (rb:=w.heap.size+1) (by omega) hD (by omega) (by omega) hT H.o.2.1 HU.o hv hu hG hK rfl;clear hv hu hG
  gi_wp2
  refine⟨by simp,.inl ⟨_,_,rfl,run_takeDeferred hK,?_⟩⟩;refine⟨.int .i64 r.cd,by simp[results,results120,go_sem,e1],rfl,?_,e3⟩;rw[hF];exact e2
end
section
def saveR(F:List Bk)(O:List (Nat×Bk))(P:List Int)(L:List (Nat×Bk)):DRes:=
 if(wrsR F L O P).cd=0 then flushR F (wrsR F L O P).O (wrsR F L O P).P else wrsR F L O P
theorem UG(F:List Bk)(O:List (Nat×Bk))(P:List Int)(L:List (Nat×Bk)):(saveR F O P L).F.length=F.length:=by
 unfold saveR;split
 .unfold flushR;repeat' split
  all_goals simp[zC]
 .rw [uS]
theorem Qu{S:Nat->Prop}{w:World}{b:Nat}{F:List Bk}{O:List (Nat×Bk)}{P:List Int}(hd:Dv S w b F O P)(hn:∀j,w.heap.size<=j->S j)(base m seq wh:Nat)(hwh:wh<=1)(lo:Option Addr)(n lc:Nat)(E:List Ent)(hEn:E.length=n)(hnm:needN n<=m)(hn1:n<=100000)
  (hbm:base+m+m<=F.length) (hO:O.length+m<65536) (hbuild:∀W,Below w.heap.size w W->Calls prog 191 #[.int .i64 (seq:Int),.slice lo n lc] W (xl W seq E)):
  Calls prog 60 #[.pointer (some ⟨b,0,none⟩),.int .i64 (base:Int),.int .i64 (m:Int),.int .i64 (wh:Int),.int .i64 (seq:Int),.slice lo n lc] w (SK S w b (saveR F O P (ckO (base+wh*m) m (pagesB seq E)))):=by
 have hfl:=hd.good.fl;have hW:=Jf hd hn (base+wh*m) m seq lo n lc E hEn hnm hn1 (by rcases(show wh=0\/wh=1 by omega)with rfl|rfl<;>omega) hO hbuild;have hrF:=uS F (ckO (base+wh*m) m (pagesB seq E)) O P;obtain⟨R,hR⟩:=qqe (saveR F O P (ckO (base+wh*m) m (pagesB seq E)));rw[<-hR];unfold saveR at hR;generalize wrsR F (ckO (base+wh*m) m (pagesB seq E)) O P=r at*;have HW:=qqh hW;have HH:=Y3 hn hR hrF;obtain⟨rcd,hrcd⟩:=qqe (r.cd);replace hrcd:=qqh hrcd;clear hd hn hEn hnm hn1 hO hbuild hW hrF hR;rcases(show wh=0\/wh=1 by omega)with rfl|rfl
 .simp only[qYg,qXs,Int.natCast_zero]at*;go_enter func60,ntmps60
  go_wp2_with fail
  refine HW.o.mono ?_;rintro e w2 ⟨rfl,hd2,hu2⟩;rw[HH.o.2.2]at hd2;rw[<-hrcd.out];have HF:=Y3 (xA hd2 (fun j hj=>HH.o.1 j (by have:=hu2.size;omega))) hu2 hd2;clear hd2 hu2;by_cases hc:rcd=0
  .have HZ:=qqh (hc▸hrcd.out:0=r.cd);subst hc;go_wp2_with fail
   refine HF.o.1.mono ?_;rintro e w3 ⟨rfl,hd3,hu3⟩;have HE:=Y2 hd3 hu3;have HR:=HH.o.2.1;rw[if_pos HZ.o.symm]at HR;rw[<-HR]at HE⊢;replace HR:=qqh HR;clear hd3 hu3;go_wp2
   go_ret
   exact⟨rfl,HE.o.1,HF.o.2.1.trans HE.o.2⟩
  .have q0:(rcd==0)=false:=by simpa using hc
   have HZ:=qqh hc;go_wp2
   go_ret
   have HR:=HH.o.2.1;rw[if_neg (by rw[<-hrcd.out];exact HZ.o)]at HR;rw[HR,hrcd.out];refine⟨rfl,?_,HF.o.2.1⟩;rw[HH.o.2.2];exact HF.o.2.2
 .simp only[Nat.one_mul,Int.natCast_one]at*;have e1:((base:Int)+(m:Int))=((base+m:Nat):Int):=by simp
  rw[<-e1]at HW;clear e1;go_enter func60,ntmps60
  go_wp2_with fail
  refine HW.o.mono ?_;rintro e w2 ⟨rfl,hd2,hu2⟩;rw[HH.o.2.2]at hd2;rw[<-hrcd.out];have HF:=Y3 (xA hd2 (fun j hj=>HH.o.1 j (by have:=hu2.size;omega))) hu2 hd2;clear hd2 hu2;by_cases hc:rcd=0
  .have HZ:=qqh (hc▸hrcd.out:0=r.cd);subst hc;go_wp2_with fail
   refine HF.o.1.mono ?_;rintro e w3 ⟨rfl,hd3,hu3⟩;have HE:=Y2 hd3 hu3;have HR:=HH.o.2.1;rw[if_pos HZ.o.symm]at HR;rw[<-HR]at HE⊢;replace HR:=qqh HR;clear hd3 hu3;go_wp2
   go_ret
   exact⟨rfl,HE.o.1,HF.o.2.1.trans HE.o.2⟩
  .have q0:(rcd==0)=false:=by simpa using hc
   have HZ:=qqh hc;go_wp2
   go_ret
   have HR:=HH.o.2.1;rw[if_neg (by rw[<-hrcd.out];exact HZ.o)]at HR;rw[HR,hrcd.out];refine⟨rfl,?_,HF.o.2.1⟩;rw[HH.o.2.2];exact HF.o.2.2
theorem Qv(p0:Nat)(s:Int)(y:Bk)(w:World):Calls prog 56 #[.int .i64 s,.agg (bkC y).toArray,.pointer (some ⟨p0,0,none⟩)] w
  fun e w'=>e=.returned (.func (.func 57) #[] #[.pointer (some ⟨p0,0,none⟩),.pointer (some ⟨w.heap.size,0,none⟩),.pointer (some ⟨w.heap.size+1,0,none⟩)])/\
   w'=(w.alloc (.cells #[.int .i64 s] 3)).alloc (.cells (bkC y).toArray 54):=by
 have hmf:=qqf;go_enter func56,ntmps56
 go_wp2
 go_ret
 simp
theorem sL{T:Nat->Prop}{w:World}{b p0 p1 p2:Nat}{F:List Bk}{O:List (Nat×Bk)}{P:List Int}(h:Dv T w b F O P)(hn:∀j,w.heap.size<=j->T j)(s:Nat)(y:Bk)(hy:y.length=64)
  (c0:w.cell? ⟨p0,0,none⟩=some (.pointer (some ⟨b,0,none⟩))) (c1:w.cell? ⟨p1,0,none⟩=some (.int .i64 (s:Int))) (r2:w.rangeAt p2 0 (bkC y)) (hs:s<F.length) (hO:O.length<65536):
  Calls prog 57 #[.pointer (some ⟨p0,0,none⟩),.pointer (some ⟨p1,0,none⟩),.pointer (some ⟨p2,0,none⟩)] w (SK T w b (writeR F O P s y)):=by
 have HW:=qqh (wZ h hn s hs y hy hO);have hsi:=zw y hy;clear h hn;go_enter func57,ntmps57
 go_wp2_with (first
  |(refine qZg rfl _ _ rfl _ _ rfl _ _ r2 underlying54 rfl hsi ?_)
  |fail)
 refine HW.o.mono ?_;rintro e w2 ⟨rfl,hd,hu⟩;have H2:=Y2 hd hu;obtain⟨cd,hcd⟩:=qqe ((writeR F O P s y).cd);rw[<-hcd];replace hcd:=qqh hcd;clear hd hu HW c0 c1 r2;go_wp2
 go_ret
 exact⟨by rw[<-hcd.out];rfl,H2.o⟩
def zW(k:Nat):List (Nat×Bk):=(List.range k).map fun i=>(i+1,zB)
theorem VA(k:Nat):zW (k+1)=zW k++[(k+1,zB)]:=by simp[zW,List.range_succ]
theorem Qw(k:Nat):(zW k).length=k:=by simp[zW]
theorem uT(F:List Bk)(O:List (Nat×Bk))(s:Nat)(y:Bk):writeR F O [] s y=⟨F,O++[(s,y)],[],0⟩:=rfl
theorem UH{T:Nat->Prop}{w:World}{b pl pd:Nat}{F:List Bk}{O:List (Nat×Bk)}(h:Dv T w b F O [])(hn:∀j,w.heap.size<=j->T j)(z:Nat)(hz1:1<=z)
  (c0:w.cell? ⟨pd,0,none⟩=some (.pointer (some ⟨b,0,none⟩))) (c5:w.cell? ⟨pl,5,none⟩=some (.int .i64 (z:Int))) (hTl:¬T pl) (hTd:¬T pd) (hz:z<=F.length) (hO:O.length<=50000):
  Calls prog 58 #[.pointer (some ⟨pl,0,none⟩),.pointer (some ⟨pd,0,none⟩)] w (SK T w b ⟨F,O++zW (z-1),[],0⟩):=by
 have hfl:=h.good.fl;obtain⟨Z,hZ⟩:=qqe (zB);have HZ:=qqh (xZ Z hZ);have HH:=Y7 h hn c0 c5 hTl hTd hZ;clear h hn c0 c5 hTl hTd hZ;go_enter func58,ntmps58
 go_wp2_with fail
 go_loopg[3] (z-1) (fun gk s3 wr=>∃k:Nat,k+gk=z-1/\s3=.int .i64 ((k:Int)+1)/\Dv T wr b F (O++zW k) []/\Upd T w wr)
 case atStart=>exact⟨0,by omega,by simp,by rw[show zW 0=[]from rfl,qxy];exact HH.o.1,uur _ _⟩
 case round=>
  obtain⟨k,hk,rfl,hd,hu⟩:=hrel;obtain⟨h,hn,c0,c5,hTl,hTd,hZ⟩:=HH.o;have d0:=hu.ja c0 hTd;have d5:=hu.ja c5 hTl;by_cases hlt:k+1<z
  .have k1:(k:Int)+1<(z:Int):=by omega
   have HW:=qqh (wZ hd (fun j hj=>hn j (qXx hu.size hj)) (k+1) (by omega) Z (by rw[hZ];exact zH) (by rw[qzd,Qw];omega));rw[uT,show((k+1:Nat):Int)=(k:Int)+1 by simp]at HW;have HU:=qqh hu;clear h hn c0 c5 hTl hTd hZ hd hu;go_wp2_with (first
    |(refine yg rfl rfl HZ.o ?_)
    |fail)
   refine HW.o.mono ?_;rintro e w2 ⟨rfl,hd2,hu2⟩;have H2:=Y2 hd2 (HU.o.trans hu2);clear hd2 hu2 HW d0 d5;go_wp2
   go_roundg (gk-1)
   case measure=>omega
   case rel=>
    obtain⟨hd2,hu2⟩:=H2.o;refine⟨k+1,by omega,by go_num,?_,hu2⟩;have e:O++zW (k+1)=O++zW k++[(k+1,Z)]:=by rw[VA,HH.o.2.2.2.2.2.2,qxx]
    rw[e];exact hd2
  .obtain rfl:z=k+1:=by omega
   have k1:¬((k:Int)+1<((k+1:Nat):Int)):=by omega
   have k2:¬((k:Int)+1<(k:Int)+1):=by omega
   have HE:=Y2 hd hu;clear h hn c0 hTl hTd hZ hd hu d0;go_wp2_with fail
   go_ret
   exact⟨rfl,HE.o.1,HE.o.2⟩
theorem Qx{T:Nat->Prop}{w:World}{b pd pl ps:Nat}{F:List Bk}{O:List (Nat×Bk)}(h:Dv T w b F O [])(hn:∀j,w.heap.size<=j->T j)(hN:Nib w)(_hNT:¬T 0)(pa:Nat)(hp1:1<=pa)(hp:1+pa+pa<=F.length)(hO:O.length+pa<65536)
  (c0:w.cell? ⟨pd,0,none⟩=some (.pointer (some ⟨b,0,none⟩))) (l0:w.cell? ⟨pl,0,none⟩=some (.int .i64 1)) (s4:w.cell? ⟨ps,4,none⟩=some (.int .i64 (pa:Int))):
  Calls prog 59 #[.pointer (some ⟨pd,0,none⟩),.pointer (some ⟨pl,0,none⟩),.pointer (some ⟨ps,0,none⟩)] w (SK T w b ⟨flushF F (O++ckO 1 pa (pagesB 0 [])),[],[],0⟩):=by
 have HS:=Qu h hn 1 pa 0 0 (by omega) none 0 0 [] rfl (by unfold needN;simpa using hp1) (by omega) hp hO (fun W hW=>sK 0 (by omega) (hN.below hW));have e:saveR F O [] (ckO (1+0*pa) pa (pagesB 0 []))=⟨flushF F (O++ckO 1 pa (pagesB 0 [])),[],[],0⟩:=by
  rw[qYg,qXs];unfold saveR;have hgo:∀(L O:List (Nat×Bk)),wrsR F L O []=⟨F,O++L,[],0⟩:=by
   intro L
   induction L with
   |nil=>intro O;simp[wrsR]
   |cons x L ih=>
    intro O;rw[wrsR_yes (by rw[uT]),uT,ih];simp
  rw[hgo];rfl
 rw[e]at HS;replace HS:=qqh HS;clear h hn hN _hNT e;go_enter func59,ntmps59
 go_wp2_with fail
 refine HS.o.mono ?_;rintro e w2 ⟨rfl,hd,hu⟩;have H2:=Y2 hd hu;clear hd hu HS c0 l0 s4;go_wp2
 go_ret
 exact⟨rfl,H2.o⟩
def bndS:List (Int×Int):=[(0,1099511627776),(1,4096),(1,1024),(1,4096),(1,4096),(1,4096),(1,64)]
def mayS(xs:List Int):Bool:=withinB bndS xs
theorem YO{w:World}{gl ol cl gt:Nat}(xs:List Int)(hxl:xs.length=7)(_hcl:7<=cl)(_hcm:cl<=maxLen)(hB:Bnd w (.func (.func 196) #[] #[.pointer (some ⟨gt,0,none⟩)]) bndS)(hx:w.rangeAt gl ol (ints xs)):
  Calls prog 196 (#[.slice (some ⟨gl,ol,none⟩) 7 cl]++ #[.pointer (some ⟨gt,0,none⟩)]) w fun e w'=>e=.returned (.bool (mayS xs))/\Below w.heap.size w w':=by
 obtain⟨g,h,c,hv,hc,hb⟩:=hB;cases hv;exact yO (cl:=cl) bndS xs hc hb hx hxl (by show 7<=7;decide) (by decide)
theorem sM{xs:List Int}(hx:xs.length=7)(h:mayS xs=true):(∀x∈xs,0<=x)/\Zo (numL [6,2,2,2,2,2,1] xs):=by
 have h1:withinB bndS xs=true:=h;have a0:=zG h1 (i:=0) (by decide) (by omega);have a1:=zG h1 (i:=1) (by decide) (by omega);have a2:=zG h1 (i:=2) (by decide) (by omega);have a3:=zG h1 (i:=3) (by decide) (by omega);have a4:=zG h1 (i:=4) (by decide) (by omega);have a5:=zG h1 (i:=5) (by decide) (by omega);have a6:=zG h1 (i:=6) (by decide) (by omega);simp[bndS]at a0 a1 a2 a3 a4 a5 a6;have hb:∀i (h1:i<xs.length) (h2:i<[6,2,2,2,2,2,1].length),0<=xs[i]/\xs[i]<256^[6,2,2,2,2,2,1][i]:=by
  intro i hi hi2;rcases i with _|_|_|_|_|_|_|i
  all_goals first|(simp at hi2;omega)|(simp;omega)
 refine⟨fun x hx'=>?_,uK (by rw[hx];rfl) (by decide) (by decide) hb⟩;obtain⟨i,hi,rfl⟩:=qza hx';exact(hb i hi (by rw[hx]at hi;exact hi)).1
def szS:List Nat:=[6,2,2,2,2,2,1]
def Wm(gs gt:Nat):Value:=.agg #[.int .i64 1,.slice (some ⟨gs,0,none⟩) 7 7,.func (.func 125) #[] #[],.func (.func 196) #[] #[.pointer (some ⟨gt,0,none⟩)],.func (.func 127) #[] #[]]
def Qy(w:World)(gs gt:Nat):Prop:=w.rangeAt gs 0 (ints (natsI szS))/\Bnd w (.func (.func 196) #[] #[.pointer (some ⟨gt,0,none⟩)]) bndS
theorem Jh:(prog.info? 137).map (·.size)=some 5:=by kernel_rfl
theorem yw:(prog.info? 40).map (·.size)=some 7:=by kernel_rfl
theorem vP(w:World):Calls prog 66 #[] w fun e w'=>∃gs gt,e=.returned (Wm gs gt)/\Qy w' gs gt/\Below w.heap.size w w':=by
 have hmf:=qqf;go_enter func66,ntmps66
 go_wp2_with fail
 refine(uI).mono ?_;rintro e w1 ⟨rfl,rfl⟩;go_wp2
 obtain⟨h1,h2,h3,h4,h5,h6⟩:=xP w (.cells #[.int .i64 1,.slice (some ⟨w.heap.size+1,0,none⟩) 7 7,.func (.func 125) #[] #[],.func (.func 196) #[] #[.pointer (some ⟨w.heap.size+1+1+1,0,none⟩)],.func (.func 127) #[] #[]] 137) (.cells (ints (natsI szS)).toArray 3)
  (.cells (bndC bndS).toArray 219) (.cells #[.slice (some ⟨w.heap.size+1+1,0,none⟩) 7 7] 321)
 refine qYw (zN rfl _ _ w.heap.size 0 [.int .i64 1,.slice (some ⟨w.heap.size+1,0,none⟩) 7 7,.func (.func 125) #[] #[],.func (.func 196) #[] #[.pointer (some ⟨w.heap.size+1+1+1,0,none⟩)],.func (.func 127) #[] #[]] _ rfl (zh h1) underlying137 rfl Jh) rfl
  ⟨w.heap.size+1,w.heap.size+1+1+1,rfl,⟨zh h2,w.heap.size+1+1+1,w.heap.size+1+1,7,rfl,za h4 0,zh h3⟩,Upd.below h6⟩
def sectS(xs:List Int):Bk:=sectB 1 (numL szS xs)
theorem sO{xs:List Int}(h:xs.length=7):(sectS xs).length=64:=vj (by rw[wk (by rw[h];rfl)];decide)
def YP(w:World)(xs:List Int)(e:Ending)(w':World):Prop:=
 ((mayS xs=true/\e=.returned (.tuple #[.agg (bkC (sectS xs)).toArray,.int .i64 0]))\/(mayS xs=false/\e=.returned (.tuple #[.agg (bkC zB).toArray,.int .i64 10])))/\Below w.heap.size w w'
theorem Qz{w:World}{gs gt:Nat}(hF:Qy w gs gt)(hN:Nib w)(cs:List Value)(hcs:cs.length=7)(xs:List Int)(hxl:xs.length=7)
  (htell:∀W,Calls prog 125 #[.agg cs.toArray] W (zQ W 7 xs)):
  Calls prog 65 #[Wm gs gt,.agg cs.toArray] w (YP w xs):=by
 obtain⟨hs,hB⟩:=hF;have hcz:(prog.info? 40).map (·.size)=some cs.length:=by rw[hcs];exact yw
 have htell':∀W,Below w.heap.size w W->Calls prog 125 (#[.agg cs.toArray]++ #[]) W (zQ W 7 xs):=fun W _=>htell W;have hmay:∀W gl cc,7<=cc->cc<=maxLen->Below w.heap.size w W->W.rangeAt gl 0 (ints xs)->Calls prog 196 (#[.slice (some ⟨gl,0,none⟩) 7 cc]++ #[.pointer (some ⟨gt,0,none⟩)]) W fun e W'=>e=.returned (.bool (mayS xs))/\Below W.heap.size W W':=fun W gl cc hc hc2 hW hr=>
  YO xs hxl hc hc2 (hB.below hW) hr
 cases hm:mayS xs with
 |false=>
  rw[hm]at hmay;exact(SX (w:=w) 1 xs 7 gs 7 125 196 #[] #[.pointer (some ⟨gt,0,none⟩)] (.func (.func 127) #[] #[]) rfl cs hcz (fun _ _=>rfl) (fun _ _=>rfl) htell' hmay).mono
   (fun e w' ⟨he,hb⟩=>⟨.inr ⟨hm,he⟩,hb⟩)
 |true=>
  rw[hm]at hmay;obtain⟨h0,hfit⟩:=sM hxl hm;have e:numsL (numL szS xs)=xs:=uJ (by rw[hxl];rfl) h0;rw[<-e]at htell' hmay;exact(Qh (w:=w) 1 (by decide) (numL szS xs) hfit 7 (by rw[qE (by rw[hxl];rfl)];rfl) (by decide) gs 7 125 196 #[] #[.pointer (some ⟨gt,0,none⟩)] (.func (.func 127) #[] #[]) rfl cs hcz (by rw[YD (by rw[hxl];rfl)];exact hs) hN (fun _ _=>rfl) (fun _ _=>rfl) htell' hmay).mono
   (fun e w' ⟨he,hb⟩=>⟨.inl ⟨hm,he⟩,hb⟩)
theorem QA{w:World}(hN:Nib w)(cs:List Value)(hcs:cs.length=7)(xs:List Int)(hxl:xs.length=7)
  (htell:∀W,Calls prog 125 #[.agg cs.toArray] W (zQ W 7 xs)):
  Calls prog 19 #[.agg cs.toArray] w (YP w xs):=by
 have HN:=Y2 hN htell;have hcz:(prog.info? 40).map (·.size)=some cs.length:=by rw[hcs];exact yw
 have HC:=qqh hcz;have hr:((w.alloc (.cells cs.toArray 40)).alloc (.cells (bkC zB).toArray 54)).rangeAt w.heap.size 0 cs:=qYp (zh (zc w _ rfl)) _;clear hN htell hcz;go_enter func19,ntmps19
 go_wp2_with fail
 change Code.wp _ _ _ _ ((w.alloc (.cells cs.toArray 40)).alloc (.cells (bkC zB).toArray 54))
 have hg:((w.alloc (.cells cs.toArray 40)).alloc (.cells (bkC zB).toArray 54)).heap[w.heap.size+1]?=some (.cells (bkC zB).toArray 54):=zc _ _ (by simp);have hu:Upd (fun _=>False) w ((w.alloc (.cells cs.toArray 40)).alloc (.cells (bkC zB).toArray 54)):=((uur _ w).alloc _).alloc _;generalize (w.alloc (.cells cs.toArray 40)).alloc (.cells (bkC zB).toArray 54)=w2 at*;have hb2:Below w.heap.size w w2:=Upd.below hu;refine qZj (S:=fun W=>W.rangeAt w.heap.size 0 cs) (by kernel_rfl) (by rw[qYq];exact hr) (fun hHeld=>?_)
 refine' qZf (i:=1) rfl (by kernel_rfl) (by kernel_rfl) (by kernel_rfl) (fun _ _ _ h=>h) (qZl (by rfl) _ _ rfl _ _ rfl _ _ (fun w h=>h) underlying40 rfl HC.o) hHeld _
 simp only[qzc,qyw,qyx,Act.put,qXi,qXl,qXk];refine qZe (rs:=[0]) (by kernel_rfl) (by simp) ?_;refine qxb rfl (fun K hK=>?_) qxc;go_simp
 refine(vP _).mono ?_;rintro e w3 ⟨gs,gt,rfl,hF,hb3⟩;have hb3':Below w2.heap.size w2 w3:=yy hb3;refine hK.o _ _ (Below.range hb3 hHeld) (fun hHeld2=>?_);clear hK K;refine qZe (rs:=[2]) (by kernel_rfl) (by simp) ?_;refine qxb rfl (fun K hK=>?_) qxc;go_simp
 refine(Qz hF ((HN.o.1.keep hu (fun h=>h)).below hb3') cs hcs xs hxl HN.o.2).mono ?_;rintro e w4 ⟨he,hb4⟩;have hb4':Below w2.heap.size w2 w4:=hb3'.trans (hb4.mono hb3'.size);have hg4:=(hb4'.block _ (zf hg)).trans hg;have hth:w4.there (w.heap.size+1) 0 64:=fun j hj=>by
  rw[za hg4,zg hg4];exact⟨by rw[qYe,qxe (by rw[zo _ zH];exact hj)];rfl,rfl⟩
 obtain⟨y,cd,hy,hres,rfl⟩:∃(y:Bk) (cd:Int),y.length=64/\((mayS xs=true/\y=sectS xs/\cd=0)\/(mayS xs=false/\y=zB/\cd=10))/\e=.returned (.tuple #[.agg (bkC y).toArray,.int .i64 cd]):=by
  rcases he with⟨hm,rfl⟩|⟨hm,rfl⟩
  .exact ⟨_,0,sO hxl,.inl ⟨hm,rfl,rfl⟩,rfl⟩
  .exact ⟨_,10,zH,.inr ⟨hm,rfl,rfl⟩,rfl⟩
 have HR:=Y2 hy hres;clear he hy hres;have hst:w4.there (w.heap.size+1) 0 (bkC y).toArray.size:=by rw[zo _ HR.o.1];exact hth
 have hst2:w4.there (w.heap.size+1) 0 (bkC y).length:=by rw[zn,HR.o.1];exact hth
 have hsz2:(prog.info? 54).map (·.size)=some (bkC y).toArray.size:=by rw[zo _ HR.o.1];exact zM
 refine hK.o _ _ (Below.range hb4 hHeld2) (fun hHeld3=>?_);clear hK K;refine qZf (i:=3) (v:=?_) rfl (by kernel_rfl) (by kernel_rfl) (by kernel_rfl) (fun _ _ _ h=>h) (Or.inl ⟨by rfl,?_⟩) hHeld3 ?_
 rotate_left
 .intro W hSw;(try dsimp only at hSw);(try go_split_ands);go_simp;(try with_reducible rfl)
 simp only[qzc,qyw,qyx,Act.put,qXi,qXl,qXk];refine qZf (i:=4) (v:=?_) rfl (by kernel_rfl) (by kernel_rfl) (by kernel_rfl) (fun _ _ _ h=>h) (Or.inl ⟨by rfl,?_⟩) hHeld3 ?_
 rotate_left
 .intro W hSw;(try dsimp only at hSw);(try go_split_ands);go_simp;(try with_reducible rfl)
 simp only[qzc,qyw,qyx,Act.put,qXi,qXl,qXk];have hU5:Below w.heap.size w (w4.setCells (w.heap.size+1) 0 (bkC y)):=zl (hb2.trans (hb4'.mono hu.size)) (zq w4 (w.heap.size+1) 0 _) (qXv _) (fun k e=>by omega);refine qZe (rs:=[5]) (by kernel_rfl) (by simp) ?_;refine qxb rfl (fun K hK=>?_) qxc;rw[if_pos (by rfl)];refine qZk _ _ _ rfl _ _ (List.toArray _) rfl rfl (hst) (hsz2) (qYu (zv _)) ?_;simp only[Act.put,qXi];refine hK.o _ _ ((zq w4 (w.heap.size+1) 0 (bkC y)).range hHeld3 (by omega)) (fun hHeld4=>?_);clear hK K;refine qZe (rs:=[6]) (by kernel_rfl) (by simp) ?_;refine qxb rfl (fun K hK=>?_) qxc;go_simp
 refine hK.o _ _ (hHeld4) (fun _=>?_);clear hK K;refine wpAnyH_done (by kernel_rfl) ?_ _;have HE:=Y2 hU5 hst2;clear hst hst2 hsz2 hU5 hth hg4 hb4 hb4' hb3 hb3' hHeld hHeld2 hHeld3 hHeld4 hF hr hg hu hb2;go_wp2
 refine qYw (zp rfl _ _ (w.heap.size+1) 0 (bkC y) _ rfl (qYr _ _ _ _ HE.o.2) underlying54 rfl (zw _ HR.o.1)) rfl ⟨?_,HE.o.1⟩;rcases HR.o.2 with⟨hm,rfl,rfl⟩|⟨hm,rfl,rfl⟩
 .exact .inl ⟨hm,rfl⟩
 .exact .inr ⟨hm,rfl⟩
end
end Go.Proofs.YtfhfbpmlnjdfoaaGreatDoor
