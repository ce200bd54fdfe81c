/- Pages: Write o -/
import Derived.Test.YtpejdgiccaijfaaGreatDoorG10
import Derived.Test.YtpejdgiccaijfaaGreatDoorG13
import Derived.Test.YtpejdgiccaijfaaGreatDoorG12
set_option maxRecDepth 100000
set_option maxHeartbeats 4000000
namespace Go.Proofs.YtpejdgiccaijfaaGreatDoor
open Go Go.RowKit Tryz
variable{F:List Bk}{O:List (Nat×Bk)}{w:World}{b base n l fi:Nat}{P:List Int}{S T:Nat->Prop}
section
open Go.Shelf
attribute [local go_sem] qYb
def wrsR(F:List Bk):List (Nat×Bk)->List (Nat×Bk)->List Int->DRes
 |[],O,P=>⟨F,O,P,0⟩
 |(s,y)::L,O,P=>if(writeR F O P s y).cd=0 then wrsR F L (writeR F O P s y).O (writeR F O P s y).P else writeR F O P s y
theorem sF(F:List Bk)(L:List (Nat×Bk)):∀O P,(wrsR F L O P).F=F:=by
 induction L with
 |nil=>intro O P;rfl
 |cons x L a=>
  intro O P;simp only[wrsR];split
  .exact a _ _
  .exact yo _ _ _ _ _
theorem Jz(F:List Bk)(L:List (Nat×Bk)):∀O P,(wrsR F L O P).O.length<=O.length+L.length:=by
 induction L with
 |nil=>intro O P;simp[wrsR]
 |cons x L a=>
  intro O P;have h1:=wu F O P x.1 x.2;simp only[wrsR,qza];split
  .have:=a (writeR F O P x.1 x.2).O (writeR F O P x.1 x.2).P;omega
  .omega
theorem wrsR_yes{x:Nat×Bk}{L:List (Nat×Bk)}(h:(writeR F O P x.1 x.2).cd=0):wrsR F (x::L) O P=wrsR F L (writeR F O P x.1 x.2).O (writeR F O P x.1 x.2).P:=by
 simp only[wrsR];exact if_pos h
theorem qZ{x:Nat×Bk}{L:List (Nat×Bk)}(h:¬(writeR F O P x.1 x.2).cd=0):wrsR F (x::L) O P=writeR F O P x.1 x.2:=by
 simp only[wrsR];exact if_neg h
theorem Rc(F:List Bk)(L:List (Nat×Bk))(s:Nat)(y:Bk):∀O P,wrsR F (L++[(s,y)]) O P=if(wrsR F L O P).cd=0 then writeR F (wrsR F L O P).O (wrsR F L O P).P s y else wrsR F L O P:=by
 induction L with
 |nil=>
  intro O P;simp only[qzv,wrsR,if_true];split
  .next a=>
   have h:=yo F O P s y;generalize writeR F O P s y=r at*;obtain⟨k,p,q,v⟩:=r;simp only at h a;subst h a;rfl
  .rfl
 |cons x L j=>
  intro O P;rw[qxz];by_cases a:(writeR F O P x.1 x.2).cd=0
  .rw [wrsR_yes a,wrsR_yes a];exact j _ _
  .rw [qZ a,qZ a,if_neg a]
theorem JA(F:List Bk)(L h:List (Nat×Bk)):∀O P,(wrsR F L O P).cd≠0->wrsR F (L++h) O P=wrsR F L O P:=by
 induction L with
 |nil=>intro O P a;exact absurd rfl a
 |cons x L j=>
  intro O P;rw[qxz];by_cases a:(writeR F O P x.1 x.2).cd=0
  .rw [wrsR_yes a,wrsR_yes a];exact j _ _
  .rw [qZ a,qZ a];exact fun _=>rfl
theorem zas{m k:Nat}(B:List Bk)(a:k<=m):∃h,ckO base m B=ckO base k B++h:=by
 refine⟨((List.range m).drop k).map (Xl base B),?_⟩;rw[ckO,ckO,<-qzh]
 congr 1
 rw[show List.range k=(List.range m).take k by rw[List.take_range,Nat.min_eq_left a]];exact(qXj k _).symm
def PwI(T:Nat->Prop)(w5:World)(b:Nat)(F:List Bk)(O:List (Nat×Bk))(P:List Int)(base:Nat){m:Nat}(B:List Bk)(pre:List {i:Nat//i<m})(W:World):Prop:=
 (wrsR F (pre.map (fun x=>Xl base B x.1)) O P).cd=0/\Dv T W b F (wrsR F (pre.map (fun x=>Xl base B x.1)) O P).O (wrsR F (pre.map (fun x=>Xl base B x.1)) O P).P/\Upd T w5 W
def PwX(T:Nat->Prop)(w5:World)(b:Nat)(F:List Bk)(O:List (Nat×Bk))(P:List Int)(base:Nat){m:Nat}(B:List Bk)(rb:Nat)(c:Code)(pre:List {i:Nat//i<m})(W:World):Prop:=
 c=.ret/\(wrsR F (pre.map (fun x=>Xl base B x.1)) O P).cd≠0/\Dv T W b F (wrsR F (pre.map (fun x=>Xl base B x.1)) O P).O (wrsR F (pre.map (fun x=>Xl base B x.1)) O P).P/\Upd (fun j=>T j\/j=rb) w5 W/\
  W.heap[rb]?=some (.cells #[.int .i64 (wrsR F (pre.map (fun x=>Xl base B x.1)) O P).cd] 31 (0,0))
theorem JB{j W q:World}{rb D:Nat}(V:w.heap.size<=rb)(H:j.heap.size<=D)(_hw5:w.heap.size<=j.heap.size)(X:rb<j.heap.size)
  (A:T=fun a=>(S a/\a<w.heap.size)\/j.heap.size<=a) (J:∀a,w.heap.size<=a->S a) (L:Upd (fun _=>False) w j) (N:Dv T W b F O P) (hu:Upd (fun a=>T a\/a=rb) j W) {v:Value}
  (E:W.heap[rb]?=some (.cells #[v] 31 (0,0))) (s:W.heap[D]?=some (.deferred (some []))) (Q:q=W.putObj D (.deferred none)):
  q.cell? ⟨rb,0,none⟩=some v/\Dv S q b F O P/\Upd S w q:=by
 have Y:=zd s;have G:=wL (S:=fun a=>j.heap.size<=a) (M:=j.heap.size) (fun a h=>h) W D _ (.deferred none) H s rfl rfl;subst Q;refine⟨za ((G.block _ (zd E) oM).trans E) 0,?_,?_⟩
 .have h2:=N.grown (grownBy_putObj' W D (.deferred none)) (fun r e=>by cases e;exact⟨_,s,rfl⟩);exact h2.wide (fun a p=>by
   rw[A]at p;rcases p with p|p
   .exact p.1
   .exact J a oM)
 .have U:Upd (fun a=>T a\/a=rb\/j.heap.size<=a) j (W.putObj D (.deferred none)):=(hu.mono (fun a _ h=>h.imp id .inl)).trans (G.mono (fun _ _ h=> .inr (.inr h)));refine(L.mono fE).new U (fun i Z k=>?_);rcases k with k|k|k
  .rw [A]at k;rcases k with k|k
   .exact k.1
   .omega
  .omega
  .omega
theorem Zcg15{P:Prop}(h:P:=by
  refine⟨trivial,?_⟩;rw[show((base:Int)+(i:Int))=((base+i:Nat):Int) by simp,<-L];clear L aN b2 c2;refine(CallsIn.inRound l (callsIn_wide.2 bt.o.1)).mono ?_;rintro e a8 ⟨rfl,D,k⟩;have bv:w.heap.size+1<a8.heap.size:=by have:=k.size;have:=zd J.o.1;have:=H.o.2.2.2.2.2.2.2.2.2.2;omega
  have N:a8.heap[w.heap.size+1]?=some (.cells #[.int .i64 0] 31):=by
   have s:=J.o.1;have au:=zd s;refine(k.block _ (by have:=H.o.2.2.2.2.2.2.2.2.2.2;omega) (fun v=>?_)).trans (H.o.2.2.2.2.2.2.2.2.2.1.j4 s);rcases v with v|v
   .exact W _ oM oM (H.o.2.2.2.2.2.2.1 _ v)
   .have:=H.o.2.2.2.2.2.2.2.2.2.2;omega
  have bx:=zf N 0;have bV:=za N 0;have aP:=Y3 D k N;clear D k N;rw[<-af.out];by_cases A:an=0
  .have b4:=qqh (A▸af.out:0=r.cd);subst A
   gi_wp2
   obtain⟨G,q,hsl,hy,am,av,U,ae,L,Q,aF⟩:=H.o;obtain⟨D,k,N⟩:=aP.o;have b5:=q.size;have ax:KeepsOthers p aw:=by rw[L];exact KeepsOthers.alloc p _
   have ai:Upd T p a8:=(Q.mono fE).trans (k.mono (fun a _ j=>j.elim (fun h=>U a h) (fun h=>Z a oM)));refine⟨ax.trans (zD k (fun a j au=>?_)),ai,?_,?_,q.trans ai⟩
   .rcases j with j|j
    .obtain ⟨cs,t,z,A⟩:=ae a j;exact⟨cs,t,z,Q.j4 A⟩
    .omega
   .rw [J.o.2.1];exact b4.o.symm
   .rw [J.o.2.1];have:=D.wide (T:=T) (fun a j=>j.elim (fun h=>U a h) (fun h=>Z a oM));rw[J.o.2.2]at this;exact this
  .have bW:(an==0)=false:=by simpa using A
   gi_wp2
   obtain⟨G,q,hsl,hy,am,av,U,ae,L,Q,aF⟩:=H.o;obtain⟨D,k,N⟩:=aP.o;have b5:=q.size;have ax:KeepsOthers p aw:=by rw[L];exact KeepsOthers.alloc p _
   have ai:Upd T p a8:=(Q.mono fE).trans (k.mono (fun a _ j=>j.elim (fun h=>U a h) (fun h=>Z a oM)));have aa:=zi a8 (w.heap.size+1) 0 (.int .i64 an);have b6:¬T (w.heap.size+1):=W _ oM (by have:=aE.o.2.2.2.2.1;have:=zd this;omega);refine⟨(ax.trans (zD k (fun a j au=>?_))).trans (zD aa (fun a j _=>⟨_,_,_,j▸N⟩)),rfl,?_,?_,?_,?_⟩
   .rcases j with j|j
    .obtain ⟨cs,t,z,A⟩:=ae a j;exact⟨cs,t,z,Q.j4 A⟩
    .omega
   .rw [J.o.2.1,<-af.out];exact A
   .rw [J.o.2.1];have:=D.wide (T:=T) (fun a j=>j.elim (fun h=>U a h) (fun h=>Z a oM));rw[J.o.2.2]at this;exact this.keep aa (fun a j e=>b6 (e▸j))
   .exact ((q.trans ai).mono (fun _ _ h=> .inl h)).trans (aa.mono (fun _ _ h=> .inr h))
   .rw [J.o.2.1,<-af.out];exact zh N 0 (.int .i64 an)):P:=h
theorem zau(ao:Dv S w b F O P)(aQ:∀a,w.heap.size<=a->S a)(base m seq:Nat)(bc:Option Addr)(n bd:Nat)(E:List Ent)(bD:E.length=n)(aH:needN n<=m)(bE:n<=100000)
  (bF:base+m<=F.length) (c5:O.length+m<65536) (aR:∀p,Below w.heap.size w p->Calls prog 130 #[.int .i64 (seq:Int),.slice bc n bd] p (xI p seq E)):
  Calls prog 82 #[.pointer (some ⟨b,0,none⟩),.int .i64 (base:Int),.int .i64 (m:Int),.int .i64 (seq:Int),.slice bc n bd] w (Am S w b (wrsR F (ckO base m (pagesB seq E)) O P)):=by
 subst bD;have bG:1<=m:=by unfold needN at aH;omega
 have c6:=ao.good.fl;have q1:decide (m<needN E.length)=false:=by simp;omega
 obtain⟨ap,aq⟩:=qqe ((w.alloc (.cells #[.pointer (some ⟨b,0,none⟩)] 38)).alloc (.cells #[.int .i64 0] 31));have k:Upd (fun _=>False) w ap:=by rw[aq];exact((uur _ w).alloc _).alloc _
 have D:=ao.new k;have aS:Below w.heap.size w ap:=Upd.below k;have b0:ap.heap.size=w.heap.size+2:=by rw[aq];simp
 have aI:ap.heap[w.heap.size]?=some (.cells #[.pointer (some ⟨b,0,none⟩)] 38):=by
  rw[aq];exact(qxk _ _ _ oe).trans (zc w _ rfl)
 have aj:ap.heap[w.heap.size+1]?=some (.cells #[.int .i64 0] 31):=by
  rw[aq];exact zc _ _ oe
 have aJ:=Y11 ao aQ True.intro aH aR k D aS b0 aI aj;clear ao aQ aH aR k aS b0 aI aj;refine(callsIn_wide (n:=3)).1 ?_;refine callsIn_of_wp_marks func82 rfl trivial ?_ rfl;simp only[ntmps82,qXi,qza,qzd,Nat.reduceAdd,Nat.reduceSub,qxi,qxj,qXc,qxy,qzv,qxz]
 gi_wp2_with (first
  |(refine⟨trivial,?_⟩;gi_at_call 129;rw[<-aq];refine(callsIn_wide.2 (SC D base m bG bF)).mono ?_;rintro e bH ⟨rfl,rfl⟩)
  |(refine⟨trivial,?_⟩;gi_at_call 31;refine(callsIn_wide.2 (sh E.length bE _)).mono ?_;rintro e bH ⟨rfl,rfl⟩)
  |fail)
 refine⟨trivial,?_⟩;rw[<-aq];refine(callsIn_wide.2 (aJ.o.2.2.2.2.1 ap aJ.o.2.2.2.2.2.2.2.1)).mono ?_;rintro e ar ⟨c7,rfl,ay,aT,be⟩;obtain⟨bf,b1,rfl⟩:=ay.rd.j6;have az:=qqb be;obtain⟨ak,aA⟩:=qqe (ar.alloc (.cells #[.slice bf (needN E.length) b1] 32));have aB:=qqu aA;have aK:=qqg aA;have aU:ak.heap.size=ar.heap.size+1:=by rw[aA];simp
 have bI:=Y6 ay aT az aB aK aU;clear ay aT be az aB aK aU aq q1 D
 gi_wp2_with (first
  |(refine⟨trivial,?_⟩;gi_at_call 131;rw[<-aA];refine(callsIn_wide.2 (qu (base:Int) (m:Int) ak)).mono ?_;rintro e V ⟨rfl,aC⟩)
  |fail)
 have aV:Upd (fun _=>False) ak V:=by rw[aC];exact((uur _ ak).alloc _).alloc _
 have c8:V.heap.size=ak.heap.size+2:=by rw[aC];simp
 have bg:V.cell? ⟨ak.heap.size,0,none⟩=some (.int .i64 (base:Int)):=by
  rw[aC];exact(za ((qxk _ _ _ oe).trans (zc ak _ rfl)) 0)
 have bh:V.cell? ⟨ak.heap.size+1,0,none⟩=some (.int .i64 (m:Int)):=by
  rw[aC];exact(za (zc _ _ oe) 0)
 obtain⟨ao,aQ,-,aH,aR,k,D,aS,b0,aI,aj⟩:=aJ.o;obtain⟨ay,aT,az,aB,aK,aU⟩:=bI.o;have aL:Upd (fun _=>False) ap V:=(az.trans aB).trans aV;have c9:=az.size;obtain⟨T,Y⟩:∃T:Nat->Prop,T=fun a=>(S a/\a<w.heap.size)\/V.heap.size<=a:=⟨_,rfl⟩
 have Z:∀a,V.heap.size<=a->T a:=fun a j=>by rw[Y];exact .inr j
 have W:∀a,w.heap.size<=a->a<V.heap.size->¬T a:=fun a h1 h2 h=>by rw[Y]at h;rcases h with h|h<;>omega
 have bi:Dv T V b F O P:=((ao.kI (T:=fun a=>S a/\a<w.heap.size) (fun a h1 h2=>⟨h1,h2⟩)).new (k.trans aL)).wide (fun a h=>by rw[Y];exact .inl h);have ab:=aL.j4 aI;have s:=aL.j4 aj;have a6:=aV.j4 aK;have aD:=ay.keep (aB.trans aV) (fun _ _ h=>h);have bj:=qqh (k.trans aL);have aE:=Y8 bi Z W ab s a6 aD Y;have bn:=VE seq E (needN E.length);clear ao aQ aH aR k D aS aI aj ay az aB aV aK aL bi ab s a6 aD Y;rw[<-aA,<-aC];rw[aU]at bg bh;clear aA aC
 refine' wpIn_rangeFunc_ownF rfl oM (gf:=196) (lb:= #[.pointer (some ⟨ar.heap.size+1+1,0,none⟩),.pointer (some ⟨ar.heap.size+1,0,none⟩)]) rfl trivial (enters_of func196 kR rfl)
  (ZF _ oM T (ar.heap.size+1+1) (ar.heap.size+1) base m V oM oM oM oM (W _ oM oM) (W _ oM oM) bh bg) uy (fun p l o bJ au=>wL (M:=V.heap.size) Z p l o bJ au) (qxl _ _) (fun _=>rfl)
  (PwI T V b F O P base (pagesB seq E))
  (PwX T V b F O P base (pagesB seq E) (w.heap.size+1))
  (fun X bK bL bM v ag ad=>⟨v.1,v.2.1.grown ag (fun r e=>(ad r e).2),yJ v.2.2 ag (fun r e=>Z r (ad r e).1)⟩)
  (fun b1 X bK bL bM v ag ad=>⟨v.1,v.2.1,v.2.2.1.grown ag (fun r e=>(ad r e).2),yJ v.2.2.2.1 ag (fun r e=> .inl (Z r (ad r e).1)),(grownBy_keeps_cells ag (fun r e=>(ad r e).2) v.2.2.2.2 rfl).trans v.2.2.2.2⟩)
  ⟨rfl,aE.o.1,uur _ _⟩
  _ ?assign ?body ?done ?stop
 case assign=>
  intro l x p K ah
  gi_wp2
  exact ah
 case body=>
  rintro l X ⟨i,bN⟩ p ⟨a7,G,q⟩ hlt;obtain⟨-,-,-,ab,s,a6,aD,-⟩:=aE.o;have ab:=(q.block _ (zd ab) (W _ oM oM)).trans ab;have s:=(q.block _ (zd s) (W _ oM oM)).trans s;have a6:=(q.block _ (zd a6) (W _ oM oM)).trans a6;have hsl:=aD.keep q (fun a j=>W a (by have:=aT a j;omega) (aD.lt j));have b2:p.cell? ⟨w.heap.size,0,none⟩=some (.pointer (some ⟨b,0,none⟩)):=za ab 0;have c2:p.cell? ⟨ar.heap.size,0,none⟩=some (.slice bf (needN E.length) b1):=za a6 0;have cb:=zd ab;have cc:=zd a6;obtain⟨y,hy⟩:=qqe ((pagesB seq E).getD i zB);have am:(bkC y).length=64:=by
   rw[zm,hy];by_cases h:i<(pagesB seq E).length
   .rw [qyg,qyk h];exact bn _ (qyv h)
   .rw [qyg,qyl oM];rfl
  have aW:Hid ((prog.info? 60).map (·.size)=some (bkC y).length):=by show _=_;rw[am];exact zM
  have b3:=Jz F (X.map (fun x=>Xl base (pagesB seq E) x.1)) O P;rw[qzc]at b3;have aM:=Rc F (X.map (fun x=>Xl base (pagesB seq E) x.1)) (base+i) y O P;rw[if_pos a7]at aM;have bp:(X++[(⟨i,bN⟩:{i:Nat//i<m})]).map (fun x=>Xl base (pagesB seq E) x.1)=X.map (fun x=>Xl base (pagesB seq E) x.1)++[(base+i,y)]:=by
   rw[qzh,hy];rfl
  rw[<-bp]at aM;generalize wrsR F (X.map (fun x=>Xl base (pagesB seq E) x.1)) O P=bO at*;obtain⟨ce,aX,aY,cf⟩:=bO;simp only at a7 G b3 aM;obtain⟨bP,av,U,ae⟩:=G.exact;obtain⟨aw,L⟩:=qqe (p.alloc (.cells (bkC y).toArray 60));have Q:=qqu L;have aj:=qqg L;have aN:=zg aj;have aF:aw.heap.size=p.heap.size+1:=by rw[L];simp
  have bq:=vO (S:=fun a=>bP a\/aw.heap.size<=a) ((av.new Q).wide (fun _ h=> .inl h)) (fun _ h=> .inr h) (base+i) oM y (by rw[<-zm];exact am) oM;have bQ:writeR F aX aY (base+i) y=writeR F aX aY (base+i) y:=rfl;have br:=yo F aX aY (base+i) y;generalize bR:writeR F aX aY (base+i) y=r at*;clear bQ;have H:=Y11 G q hsl hy am av U ae L Q aF;have J:=Y3 s aM br;have bs:aw.cell? ⟨w.heap.size,0,none⟩=some (.pointer (some ⟨b,0,none⟩)):=Q.j3 b2 id;have bt:=Y2 bq bs;clear G q hsl ab s a6 aD hy am av U ae Q aj bq aF bs a7 b3 aM bp bR br;clear ab s a6;rw[L]at aN;obtain⟨an,af⟩:=qqe (r.cd);replace af:=qqh af;by_cases ch:i<needN E.length
  .obtain ⟨g,ci,cj,cl,aO,ag,bS,A⟩:=H.o.2.2.1.at oM;cases aO;have bT:(pagesB seq E).length=needN E.length:=xW _ _ _;have ad:=Zt (F:=pagesB seq E) bn ag A (i:=i) oM;have bu:(pagesB seq E)[i]'oM =y:=by rw[H.o.2.2.2.1,qyg,qyk oM];rfl
   rw[bu]at ad;have bU:=qYj ad (.cells (bkC zB).toArray 60);clear ag bS A bu ad
   gi_wp2_with (first
    |(refine yM rfl _ _ rfl _ _ rfl _ _ bU underlying60 rfl aW.out ?_)
    |(refine yM rfl _ _ rfl _ _ rfl _ _ aN underlying60 rfl aW.out ?_)
    |(refine xN rfl _ _ _ rfl _ _ _ rfl rfl (by rw[H.o.2.2.2.2.1];rfl) aW.out (zx y) ?_)
    |fail)
   exact Zcg15
  .have bz:y=zB:=by
    have bT:(pagesB seq E).length=needN E.length:=xW _ _ _;rw[H.o.2.2.2.1,qyg,qyl oM];rfl
   gi_wp2_with fail
   rw[zcm,<-bz];clear bz;refine uq _ _ rfl _ _ rfl _ _ aN underlying60 rfl aW.out ?_
   gi_wp2_with fail
   exact Zcg15
 case done=>
  rintro b7 bX p b8 bY ⟨a7,G,q⟩ ah;obtain⟨-,-,-,-,s,-,-,Y⟩:=aE.o;have s:=(q.block _ (zd s) (W _ oM oM)).trans s;have c1:=za s 0;have bx:=zf s 0;have aZ:(ckO base m (pagesB seq E))=bX.map (fun x=>Xl base (pagesB seq E) x.1):=by
   rw[ckO,<-bY,qzj];rfl
  rw[<-aZ]at a7 G;have aG:=sF F (ckO base m (pagesB seq E)) O P;generalize wrsR F (ckO base m (pagesB seq E)) O P=r at*;have bZ:=Y7 G q a7 ah s Y aG;have bv:=zd s;clear G q aZ s Y a7 aG
  gi_wp2
  obtain⟨G,q,a7,ah,s,Y,aG⟩:=bZ.o;have aa:=zi p (w.heap.size+1) 0 (.int .i64 0);have bA:(p.setCell ⟨w.heap.size+1,0,none⟩ (.int .i64 0)).heap[b7]?=some (.deferred (some [])):=(aa.block b7 (zd ah) oM).trans ah;have a6:=zh s 0 (.int .i64 0);refine⟨oe,.inl ⟨_,_,rfl,run_takeDeferred bA,?_⟩⟩;have h1:=G.keep aa (fun a j e=>W a oM oM j);obtain⟨aO,b9,ba⟩:=JB (rb:=w.heap.size+1) oM b8 oM oM Y aJ.o.2.1 bj.o h1 ((q.mono (fun _ _ h=> .inl h)).trans (aa.mono (fun _ _ h=> .inr h))) a6 bA rfl;refine⟨.int .i64 0,by simp[results,results82,go_sem,aO],?_,?_,ba⟩
  .rw [a7]
  .rw [aG];exact b9
 case stop=>
  rintro b7 c X p b8 bB ⟨rfl,a7,G,q,bb⟩ ah;have Y:=aE.o.2.2.2.2.2.2.2;have c0:X.length<=m:=by
   refine Decidable.byContradiction fun hlt=>?_;have c3:m∈X.map (·.1):=by rw[bB];exact qzt.2 oM
   obtain⟨x,-,hx⟩:=qzr.1 c3;have:=x.2;omega
  obtain⟨co,c4⟩:=zas (base:=base) (pagesB seq E) c0;have aZ:(ckO base X.length (pagesB seq E))=X.map (fun x=>Xl base (pagesB seq E) x.1):=by
   rw[ckO,<-bB,qzj];rfl
  have bC:wrsR F (ckO base m (pagesB seq E)) O P=wrsR F (X.map (fun x=>Xl base (pagesB seq E) x.1)) O P:=by
   rw[c4,aZ];exact JA _ _ _ _ _ a7
  have aG:=sF F (ckO base m (pagesB seq E)) O P;rw[<-bC]at a7 G bb;generalize wrsR F (ckO base m (pagesB seq E)) O P=r at*;clear bC;obtain⟨aO,b9,ba⟩:=JB (rb:=w.heap.size+1) oM b8 oM oM Y aJ.o.2.1 bj.o G q bb ah rfl;clear G q bb
  gi_wp2
  refine⟨oe,.inl ⟨_,_,rfl,run_takeDeferred ah,?_⟩⟩;refine⟨.int .i64 r.cd,by simp[results,results82,go_sem,aO],rfl,?_,ba⟩;rw[aG];exact b9
end
def saveR(F:List Bk)(O:List (Nat×Bk))(P:List Int)(L:List (Nat×Bk)):DRes:=
 if(wrsR F L O P).cd=0 then flushR F (wrsR F L O P).O (wrsR F L O P).P else wrsR F L O P
theorem Re(F:List Bk)(O:List (Nat×Bk))(P:List Int)(L:List (Nat×Bk)):(saveR F O P L).F.length=F.length:=by
 unfold saveR;split
 .unfold flushR;repeat' split
  all_goals simp[zI]
 .rw [sF]
theorem Zcg151{P:Prop}(h:P:=by
  go_enter func52,ntmps52
  go_wp2_with fail
  refine X.o.mono ?_;rintro e ae ⟨rfl,p,v⟩;rw[j.o.2.2]at p;rw[<-k.out];have q:=Y3 (xT p (fun G af=>j.o.1 G (by have:=v.size;omega))) v p;clear p v;by_cases s:M=0
  .have A:=qqh (s▸k.out:0=r.cd);subst s;go_wp2_with fail
   refine q.o.1.mono ?_;rintro e ag ⟨rfl,H,J⟩;have D:=Y2 H J;have a:=j.o.2.1;rw[if_pos A.o.symm]at a;rw[<-a]at D⊢;replace a:=qqh a;clear H J;go_wp2
   go_ret
   exact⟨rfl,D.o.1,q.o.2.1.trans D.o.2⟩
  .have ah:(M==0)=false:=by simpa using s
   have A:=qqh s;go_wp2
   go_ret
   have a:=j.o.2.1;rw[if_neg (by rw[<-k.out];exact A.o)]at a;rw[a,k.out];refine⟨rfl,?_,q.o.2.1⟩;rw[j.o.2.2];exact q.o.2.2):P:=h
theorem JC(N:Dv S w b F O P)(Q:∀G,w.heap.size<=G->S G)(base m seq wh:Nat)(ai:wh<=1)(U:Option Addr)(n V:Nat)(E:List Ent)(Y:E.length=n)(Z:needN n<=m)(a6:n<=100000)
  (aj:base+m+m<=F.length) (a7:O.length+m<65536) (a8:∀W,Below w.heap.size w W->Calls prog 130 #[.int .i64 (seq:Int),.slice U n V] W (xI W seq E)):
  Calls prog 52 #[.pointer (some ⟨b,0,none⟩),.int .i64 (base:Int),.int .i64 (m:Int),.int .i64 (wh:Int),.int .i64 (seq:Int),.slice U n V] w (Am S w b (saveR F O P (ckO (base+wh*m) m (pagesB seq E)))):=by
 have ak:=N.good.fl;have aa:=zau N Q (base+wh*m) m seq U n V E Y Z a6 (by rcases(show wh=0\/wh=1 by omega)with rfl|rfl<;>omega) a7 a8;have ab:=sF F (ckO (base+wh*m) m (pagesB seq E)) O P;obtain⟨R,L⟩:=qqe (saveR F O P (ckO (base+wh*m) m (pagesB seq E)));rw[<-L];unfold saveR at L;generalize wrsR F (ckO (base+wh*m) m (pagesB seq E)) O P=r at*;have X:=qqh aa;have j:=Y3 Q L ab;obtain⟨M,k⟩:=qqe (r.cd);replace k:=qqh k;clear N Q Y Z a6 a7 a8 aa ab L;rcases(show wh=0\/wh=1 by omega)with rfl|rfl
 .simp only[qYa,qXn,Int.natCast_zero]at*;exact Zcg151
 .simp only[Nat.one_mul,Int.natCast_one]at*;have ad:((base:Int)+(m:Int))=((base+m:Nat):Int):=oe;rw[<-ad]at X;clear ad;exact Zcg151
theorem JD(a:Nat)(s:Int)(y:Bk)(w:World):Calls prog 47 #[.int .i64 s,.agg (bkC y).toArray,.pointer (some ⟨a,0,none⟩)] w
  fun e h=>e=.returned (.func (.func 48) #[] #[.pointer (some ⟨a,0,none⟩),.pointer (some ⟨w.heap.size,0,none⟩),.pointer (some ⟨w.heap.size+1,0,none⟩)])/\
   h=(w.alloc (.cells #[.int .i64 s] 3)).alloc (.cells (bkC y).toArray 60):=by
 have j:=qqf;go_enter func47,ntmps47
 go_wp2
 go_ret
 simp
theorem ZN{h j k:Nat}(p:Dv T w b F O P)(q:∀v,w.heap.size<=v->T v)(s:Nat)(y:Bk)(hy:y.length=64)
  (H:w.cell? ⟨h,0,none⟩=some (.pointer (some ⟨b,0,none⟩))) (c1:w.cell? ⟨j,0,none⟩=some (.int .i64 (s:Int))) (A:w.rangeAt k 0 (bkC y)) (J:s<F.length) (L:O.length<65536):
  Calls prog 48 #[.pointer (some ⟨h,0,none⟩),.pointer (some ⟨j,0,none⟩),.pointer (some ⟨k,0,none⟩)] w (Am T w b (writeR F O P s y)):=by
 have D:=qqh (vO p q s J y hy L);have M:=zu y hy;clear p q;go_enter func48,ntmps48
 go_wp2_with (first
  |(refine qYz rfl _ _ rfl _ _ rfl _ _ A underlying60 rfl M ?_)
  |fail)
 refine D.o.mono ?_;rintro e Q ⟨rfl,E,G⟩;have N:=Y2 E G;obtain⟨U,a⟩:=qqe ((writeR F O P s y).cd);rw[<-a];replace a:=qqh a;clear E G D H c1 A;go_wp2
 go_ret
 exact⟨by rw[<-a.out];rfl,N.o⟩
def zW(k:Nat):List (Nat×Bk):=(List.range k).map fun i=>(i+1,zB)
theorem Tn(k:Nat):zW (k+1)=zW k++[(k+1,zB)]:=by simp[zW,List.range_succ]
theorem JE(k:Nat):(zW k).length=k:=by simp[zW]
theorem qd(F:List Bk)(O:List (Nat×Bk))(s:Nat)(y:Bk):writeR F O [] s y=⟨F,O++[(s,y)],[],0⟩:=rfl
theorem Rf{pl J:Nat}(h:Dv T w b F O [])(p:∀D,w.heap.size<=D->T D)(z:Nat)(a8:1<=z)
  (q:w.cell? ⟨J,0,none⟩=some (.pointer (some ⟨b,0,none⟩))) (A:w.cell? ⟨pl,5,none⟩=some (.int .i64 (z:Int))) (s:¬T pl) (v:¬T J) (aa:z<=F.length) (ab:O.length<=50000):
  Calls prog 50 #[.pointer (some ⟨pl,0,none⟩),.pointer (some ⟨J,0,none⟩)] w (Am T w b ⟨F,O++zW (z-1),[],0⟩):=by
 have ad:=h.good.fl;obtain⟨L,j⟩:=qqe (zB);have V:=qqh (xO L j);have M:=Y7 h p q A s v j;clear h p q A s v j;go_enter func50,ntmps50
 go_wp2_with fail
 go_loopg[3] (z-1) (fun gk W wr=>∃a:Nat,a+gk=z-1/\W=.int .i64 ((a:Int)+1)/\Dv T wr b F (O++zW a) []/\Upd T w wr)
 case atStart=>exact⟨0,oM,oe,by rw[show zW 0=[]from rfl,qxx];exact M.o.1,uur _ _⟩
 case round=>
  obtain⟨a,ae,rfl,E,k⟩:=hrel;obtain⟨h,p,q,A,s,v,j⟩:=M.o;have Q:=k.j3 q v;have X:=k.j3 A s;by_cases hlt:a+1<z
  .have Y:(a:Int)+1<(z:Int):=oM;have N:=qqh (vO E (fun D Z=>p D (qXr k.size Z)) (a+1) oM L (by rw[j];exact zH) (by rw[qyz,JE];omega));rw[qd,show((a+1:Nat):Int)=(a:Int)+1 by simp]at N;have a6:=qqh k;clear h p q A s v j E k;go_wp2_with (first
    |(refine zY rfl rfl V.o ?_)
    |fail)
   refine N.o.mono ?_;rintro e af ⟨rfl,G,H⟩;have a7:=Y2 G (a6.o.trans H);clear G H N Q X;go_wp2
   go_roundg (gk-1)
   case measure=>omega
   case rel=>
    obtain⟨G,H⟩:=a7.o;refine⟨a+1,oM,by go_num,?_,H⟩;have e:O++zW (a+1)=O++zW a++[(a+1,L)]:=by rw[Tn,M.o.2.2.2.2.2.2,qxw]
    rw[e];exact G
  .obtain rfl:z=a+1:=oM;have Y:¬((a:Int)+1<((a+1:Nat):Int)):=oM;have ag:¬((a:Int)+1<(a:Int)+1):=oM;have U:=Y2 E k;clear h p q s v j E k Q;go_wp2_with fail
   go_ret
   exact⟨rfl,U.o.1,U.o.2⟩
theorem JF{p pl ps:Nat}(h:Dv T w b F O [])(q:∀s,w.heap.size<=s->T s)(v:Nib w)(_hNT:¬T 0)(a:Nat)(E:1<=a)(G:1+a+a<=F.length)(H:O.length+a<65536)
  (J:w.cell? ⟨p,0,none⟩=some (.pointer (some ⟨b,0,none⟩))) (L:w.cell? ⟨pl,0,none⟩=some (.int .i64 1)) (M:w.cell? ⟨ps,4,none⟩=some (.int .i64 (a:Int))):
  Calls prog 51 #[.pointer (some ⟨p,0,none⟩),.pointer (some ⟨pl,0,none⟩),.pointer (some ⟨ps,0,none⟩)] w (Am T w b ⟨flushF F (O++ckO 1 a (pagesB 0 [])),[],[],0⟩):=by
 have j:=JC h q 1 a 0 0 oM none 0 0 [] rfl (by unfold needN;simpa using E) oM G H (fun W N=>ZH 0 oM (v.below N));have e:saveR F O [] (ckO (1+0*a) a (pagesB 0 []))=⟨flushF F (O++ckO 1 a (pagesB 0 [])),[],[],0⟩:=by
  rw[qYa,qXn];unfold saveR;have Q:∀(k O:List (Nat×Bk)),wrsR F k O []=⟨F,O++k,[],0⟩:=by
   intro k
   induction k with
   |nil=>intro O;simp[wrsR]
   |cons x k U=>
    intro O;rw[wrsR_yes (by rw[qd]),qd,U];simp
  rw[Q];rfl
 rw[e]at j;replace j:=qqh j;clear h q v _hNT e;go_enter func51,ntmps51
 go_wp2_with fail
 refine j.o.mono ?_;rintro e X ⟨rfl,A,D⟩;have V:=Y2 A D;clear A D j J L M;go_wp2
 go_ret
 exact⟨rfl,V.o⟩
def szF:List Nat:=[6,6,2,2,1,3,3,3,3,3,3,3,3]
def zcU(gs gt:Nat):Value:=.agg #[.int .i64 6,.slice (some ⟨gs,0,none⟩) 13 13,.func (.func 296) #[] #[],.func (.func 297) #[] #[.pointer (some ⟨gt,0,none⟩)],.func (.func 299) #[] #[]]
def zff(w:World)(gs gt:Nat):Prop:=w.rangeAt gs 0 (ints (natsI szF))/\∃v,w.cell? ⟨gt,0,none⟩=some v/\Bnd w v zfe
theorem zav:(prog.info? 355).map (·.size)=some 5:=kR
theorem tE(w:World):Calls prog 224 #[] w fun e a=>∃gs h,e=.returned (zcU gs h)/\zff a gs h/\Below w.heap.size w a:=by
 have s:=qqf;go_enter func224,ntmps224
 go_wp2_with fail
 refine(xG).mono ?_;rintro e w1 ⟨rfl,rfl⟩;go_wp2
 obtain⟨h1,h2,j,k,p,v,q⟩:=uU w (.cells #[.int .i64 6,.slice (some ⟨w.heap.size+1+1+1+1,0,none⟩) 13 13,.func (.func 296) #[] #[],.func (.func 297) #[] #[.pointer (some ⟨w.heap.size+1+1+1,0,none⟩)],.func (.func 299) #[] #[]] 355)
  (.cells (bndC zfe).toArray 207) (.cells #[.slice (some ⟨w.heap.size+1,0,none⟩) 5 5] 294) (.cells #[.func (.func 194) #[] #[.pointer (some ⟨w.heap.size+1+1,0,none⟩)]] 138) (.cells (ints (natsI szF)).toArray 3)
 refine qYq (zq rfl _ _ w.heap.size 0 [.int .i64 6,.slice (some ⟨w.heap.size+1+1+1+1,0,none⟩) 13 13,.func (.func 296) #[] #[],.func (.func 297) #[] #[.pointer (some ⟨w.heap.size+1+1+1,0,none⟩)],.func (.func 299) #[] #[]] _ rfl (zg h1) underlying355 rfl zav) rfl
  ⟨w.heap.size+1+1+1+1,w.heap.size+1+1+1,rfl,⟨zg p,_,za k 0,w.heap.size+1+1,w.heap.size+1,5,rfl,za j 0,zg h2⟩,Upd.below q⟩
theorem vD{P:Prop}(h:P:=by
 have H:=qqh hN;have HC:=qqh hb;clear hN hb;have hr:((w.alloc (.cells #[.int .i64 (k:Int),.slice (some ⟨gs,0,none⟩) m cl,tv,.func (.func fm) #[] cm,.func (.func fb) #[] cb] n1u)).alloc (.cells (bkC b).toArray 60)).rangeAt (w.heap.size+1) 0 (bkC b):=zg (zc _ _ oe);go_enter q2u,q3u
 go_wp2_with (first
  |(refine qYz rfl _ _ rfl _ _ rfl _ _ (qYj (qYj hr _) _) underlying60 rfl (zu _ HC.o) ?_)
  |fail)
 show Calls _ _ _ ((((w.alloc (.cells #[.int .i64 (k:Int),.slice (some ⟨gs,0,none⟩) m cl,tv,.func (.func fm) #[] cm,.func (.func fb) #[] cb] n1u)).alloc (.cells (bkC b).toArray 60)).alloc (.cells zL.toArray n4u)).alloc (.cells zL.toArray n4u)) _;obtain⟨Z,hZ⟩:∃Z:List Value,Z=zL:=⟨_,rfl⟩
 rw[<-hZ];have hZs:Hid (Z.toArray.size=n5u):=by show _=_;rw[hZ];rfl
 have hZl:Hid (Z.length=n5u):=by show _=_;rw[hZ];rfl
 have hsZ:Hid ((prog.info? n4u).map (·.size)=some Z.length):=by show _=_;rw[hZ];exact q6u
 have hsA:Hid ((prog.info? n4u).map (·.size)=some Z.toArray.size):=by show _=_;rw[hZ];exact q6u
 have hZ1:Hid ((Z.toArray).all (·.oneCell')=true):=by show _=_;rw[hZ];exact sG
 have HZ:=qqh hZ;clear hZ;obtain⟨h1,h2,h3,h4,h5,h6⟩:=xK w (.cells #[.int .i64 (k:Int),.slice (some ⟨gs,0,none⟩) m cl,tv,.func (.func fm) #[] cm,.func (.func fb) #[] cb] n1u) (.cells (bkC b).toArray 60) (.cells Z.toArray n4u) (.cells Z.toArray n4u);clear hr;generalize (((w.alloc (.cells #[.int .i64 (k:Int),.slice (some ⟨gs,0,none⟩) m cl,tv,.func (.func fm) #[] cm,.func (.func fb) #[] cb] n1u)).alloc (.cells (bkC b).toArray 60)).alloc (.cells Z.toArray n4u)).alloc (.cells Z.toArray n4u)=w4 at*;refine(ru b HC.o (H.o.keep h6 id)).mono ?_;rintro e w5 ⟨rfl,hb5⟩;have hu5:=qqb hb5;have g1:=(hu5.block _ (zd h1) id).trans h1;have g2:=(hu5.block _ (zd h2) id).trans h2;have g3:=(hu5.block _ (zd h3) id).trans h3;have g4:=(hu5.block _ (zd h4) id).trans h4;have hz5:=hu5.size;have H5:=Y7 g1 g2 g3 g4 (h6.trans hu5) h5 hz5;clear h1 h2 h3 h4 h5 h6 g1 g2 g3 g4 hu5 hb5 hz5;have hsc:sealedC b=13:=if_neg hsl;rw[hsc];clear hsc hsl;obtain⟨g1,g2,g3,g4,u5,z4,z5⟩:=H5.o;have r4:=zg g4;have hth:w5.there (w.heap.size+1+1) 0 n5u:=fun j hj=>by
  rw[za g3,zf g3];exact⟨by rw[qXy,qxe jT];rfl,rfl⟩
 have HU:=qqh u5;clear g1 g2 g3 g4 u5 z4 z5;go_wp2_with (first
  |(refine qYz rfl _ _ rfl _ _ rfl _ _ r4 q7u rfl hsZ.out ?_)
  |(refine qZb rfl _ _ _ rfl _ _ Z.toArray rfl rfl (by rw[hZs.out];exact hth) hsA.out hZ1.out ?_)
  |fail)
 refine qYq (zp rfl _ _ (w.heap.size+1+1) 0 Z _ rfl (qYl _ _ _ _ (by first|(rw[hZs.out];exact hth)|(rw[hZl.out];exact hth))) q7u rfl hsZ.out) rfl
  ⟨⟨_,fun h=>(nomatch h),fun _=>rfl,by rw[HZ.o];rfl⟩,zj (Upd.below HU.o) (zn w5 (w.heap.size+1+1) 0 _) (qXp _) (fun k e=>oM)⟩):P:=h
theorem vE{P:Prop}(h:P:=by
 have HN:=qqh hN;have Hb:=qqh hb;clear hN hb;go_enter q8u,q9u
 go_wp2_with fail
 change Code.wp _ _ _ _ ((w.alloc (.cells (bkC b).toArray 60)).alloc (.cells zL.toArray n4u))
 have hr:((w.alloc (.cells (bkC b).toArray 60)).alloc (.cells zL.toArray n4u)).rangeAt w.heap.size 0 (bkC b):=qYj (zg (zc w _ rfl)) _;have hg:((w.alloc (.cells (bkC b).toArray 60)).alloc (.cells zL.toArray n4u)).heap[w.heap.size+1]?=some (.cells zL.toArray n4u):=zc _ _ oe;have hu:Upd (fun _=>False) w ((w.alloc (.cells (bkC b).toArray 60)).alloc (.cells zL.toArray n4u)):=((uur _ w).alloc _).alloc _;generalize (w.alloc (.cells (bkC b).toArray 60)).alloc (.cells zL.toArray n4u)=w2 at*;have hb2:Below w.heap.size w w2:=Upd.below hu;refine qZc (S:=fun W=>W.rangeAt w.heap.size 0 (bkC b)) kR oN (fun hHeld=>?_);refine Wl.l 1 (fun w h=>h) underlying60 (zu _ Hb.out) hHeld ?_;refine Wl.r 0 (fun K hK=>?_);go_simp
 refine(zcV _).mono ?_;rintro e w3 ⟨gs,gt,rfl,hF,hb3⟩;have hb3':Below w2.heap.size w2 w3:=yy hb3;refine hK.o _ _ (Below.range hb3 hHeld) (fun hHeld2=>?_);clear hK K;refine Wl.r 2 (fun K hK=>?_);go_simp
 refine(zcW b Hb.out hsl zcX n5u gs n5u _ _ _ _ _ ((HN.o.keep hu id).below hb3')).mono ?_;rintro e w4 ⟨⟨rs,hr1,hr2,rfl⟩,hb4⟩;have hb4':Below w2.heap.size w2 w4:=hb3'.trans (hb4.mono hb3'.size);have hg4:=(hb4'.block _ (zd hg)).trans hg;have hth:w4.there (w.heap.size+1) 0 n5u:=fun j hj=>by
  rw[za hg4,zf hg4];exact⟨by rw[qXy,qxe (by simpa[zL]using hj)];rfl,rfl⟩
 have hrl:rs.length=n5u/\∀v∈rs,v.oneCell'=true:=by rw[hr2 rfl];exact⟨rfl,wV⟩
 have HR2:Hid (rs=zL):=hr2 rfl;clear hr1 hr2;have hst:w4.there (w.heap.size+1) 0 rs.toArray.size:=by rw[show rs.toArray.size=n5u by simpa using hrl.1];exact hth
 have hst2:w4.there (w.heap.size+1) 0 rs.length:=by rw[hrl.1];exact hth
 have hsz2:(prog.info? n4u).map (·.size)=some rs.toArray.size:=by rw[show rs.toArray.size=n5u by simpa using hrl.1];exact q6u
 have hsz3:(prog.info? n4u).map (·.size)=some rs.length:=by rw[hrl.1];exact q6u
 have hU5:Below w.heap.size w (w4.setCells (w.heap.size+1) 0 rs):=zj (hb2.trans (hb4'.mono hu.size)) (zn w4 (w.heap.size+1) 0 _) (qXp _) (fun k e=>oM);refine hK.o _ _ (Below.range hb4 hHeld2) (fun hHeld3=>?_);clear hK K;refine Wl.i [3,4] ?_;iterate 2 refine Wl.t hHeld3 ?_
 refine Wl.o ?_;refine Wl.r 5 (fun K hK=>?_);rw[if_pos oE];refine qZd _ _ _ rfl _ _ (List.toArray _) rfl rfl (hst) (hsz2) (qYo hrl.2) ?_;simp only[Act.put,qXe];refine hK.o _ _ ((zn w4 (w.heap.size+1) 0 rs).range hHeld3 oM) (fun hHeld4=>?_);clear hK K;refine Wl.r 6 (fun K hK=>?_);go_simp
 refine hK.o _ _ (hHeld4) (fun _=>?_);clear hK K;refine Wl.d ?_;have HE:=Y4 hU5 hst2 hsz3 HR2;clear hst hst2 hsz2 hsz3 hU5 hth hg4 hb4 hb4' hb3 hb3' hHeld hHeld2 hHeld3 hHeld4 hF hr hg hu hb2 hrl;go_wp2
 exact qYq (zp rfl _ _ (w.heap.size+1) 0 rs _ rfl (qYl _ _ _ _ HE.o.2.1) q7u rfl HE.o.2.2.1) rfl ⟨⟨rs,fun h=>(nomatch h),fun _=>HE.o.2.2.2.out,rfl⟩,HE.o.1⟩):P:=h
namespace fUnI
def zL:List Value:=[Value.int .i64 0,.int .i64 0,.int .i64 0,.int .i64 0]
theorem sG:(zL.toArray).all (·.oneCell')=true:=by simp[zL,Value.oneCell']
theorem wV:∀a∈zL,a.oneCell'=true:=by intro a h;simp[zL]at h;subst h;rfl
end fUnI
namespace fUnI
abbrev n1u:Nat:=341
theorem q2u:type_of% @func219:= @func219
theorem q3u:type_of% @ntmps219:= @ntmps219
abbrev n4u:Nat:=117
abbrev n5u:Nat:=4
theorem q6u:type_of% @tT:= @tT
theorem q7u:type_of% @underlying117:= @underlying117
end fUnI
open fUnI in
theorem To{w:World}(b:Bk)(hb:b.length=64)(hsl:sealB b≠b)(k m gs cl:Nat)(fm fb:Nat)(cm cb:Array Value)(tv:Value)(hN:Nib w):
  Calls prog 219 #[.agg #[.int .i64 (k:Int),.slice (some ⟨gs,0,none⟩) m cl,tv,.func (.func fm) #[] cm,.func (.func fb) #[] cb],.agg (bkC b).toArray] w
   (yq w false [] zL 13):=vD
namespace fUnI
theorem q8u:type_of% @func149:= @func149
theorem q9u:type_of% @ntmps149:= @ntmps149
theorem zcV:type_of% @qp:= @qp
theorem zcW:type_of% @To:= @To
abbrev zcX:Nat:=4
end fUnI
open fUnI in
theorem Tp{w:World}(hN:Nib w)(b:Bk)(hb:b.length=64)(hsl:sealB b≠b):
  Calls prog 149 #[.agg (bkC b).toArray] w (yq w false [] zL 13):=vE
namespace fUnT
def zL:List Value:=[Value.int .i64 0,.int .i64 0,.int .i64 0,.int .i64 0,.int .i64 0,.int .i64 0]
theorem sG:(zL.toArray).all (·.oneCell')=true:=by simp[zL,Value.oneCell']
theorem wV:∀a∈zL,a.oneCell'=true:=by intro a h;simp[zL]at h;subst h;rfl
end fUnT
namespace fUnT
abbrev n1u:Nat:=348
theorem q2u:type_of% @func222:= @func222
theorem q3u:type_of% @ntmps222:= @ntmps222
abbrev n4u:Nat:=187
abbrev n5u:Nat:=6
theorem q6u:type_of% @Jh:= @Jh
theorem q7u:type_of% @underlying187:= @underlying187
end fUnT
open fUnT in
theorem Tq{w:World}(b:Bk)(hb:b.length=64)(hsl:sealB b≠b)(k m gs cl:Nat)(fm fb:Nat)(cm cb:Array Value)(tv:Value)(hN:Nib w):
  Calls prog 222 #[.agg #[.int .i64 (k:Int),.slice (some ⟨gs,0,none⟩) m cl,tv,.func (.func fm) #[] cm,.func (.func fb) #[] cb],.agg (bkC b).toArray] w
   (yq w false [] zL 13):=vD
namespace fUnT
theorem q8u:type_of% @func153:= @func153
theorem q9u:type_of% @ntmps153:= @ntmps153
theorem zcV:type_of% @ZM:= @ZM
theorem zcW:type_of% @Tq:= @Tq
abbrev zcX:Nat:=5
end fUnT
open fUnT in
theorem Tr{w:World}(hN:Nib w)(b:Bk)(hb:b.length=64)(hsl:sealB b≠b):
  Calls prog 153 #[.agg (bkC b).toArray] w (yq w false [] zL 13):=vE
namespace fUnF
def zL:List Value:=[Value.int .i64 0,.int .i64 0,.int .i64 0,.int .i64 0,.int .i64 0,.int .i64 0,.int .i64 0,.int .i64 0,.int .i64 0,.int .i64 0,.int .i64 0,.int .i64 0,.int .i64 0]
theorem sG:(zL.toArray).all (·.oneCell')=true:=by simp[zL,Value.oneCell']
theorem wV:∀a∈zL,a.oneCell'=true:=by intro a h;simp[zL]at h;subst h;rfl
end fUnF
namespace fUnF
abbrev n1u:Nat:=355
theorem q2u:type_of% @func225:= @func225
theorem q3u:type_of% @ntmps225:= @ntmps225
abbrev n4u:Nat:=192
abbrev n5u:Nat:=13
theorem q6u:type_of% @Ji:= @Ji
theorem q7u:type_of% @underlying192:= @underlying192
end fUnF
open fUnF in
theorem Ts{w:World}(b:Bk)(hb:b.length=64)(hsl:sealB b≠b)(k m gs cl:Nat)(fm fb:Nat)(cm cb:Array Value)(tv:Value)(hN:Nib w):
  Calls prog 225 #[.agg #[.int .i64 (k:Int),.slice (some ⟨gs,0,none⟩) m cl,tv,.func (.func fm) #[] cm,.func (.func fb) #[] cb],.agg (bkC b).toArray] w
   (yq w false [] zL 13):=vD
namespace fUnF
theorem q8u:type_of% @func157:= @func157
theorem q9u:type_of% @ntmps157:= @ntmps157
theorem zcV:type_of% @tE:= @tE
theorem zcW:type_of% @Ts:= @Ts
abbrev zcX:Nat:=6
end fUnF
open fUnF in
theorem Tt{w:World}(hN:Nib w)(b:Bk)(hb:b.length=64)(hsl:sealB b≠b):
  Calls prog 157 #[.agg (bkC b).toArray] w (yq w false [] zL 13):=vE
theorem vF{P:Prop}(h:P:=by
 replace hz:=qqh hz;obtain⟨cx,hcx⟩:∃cx:Int,cx=if curB F O (base+an)=zB then 14 else 12:=⟨_,rfl⟩
 rw[<-hcx];have HCX:=qqh hcx;clear hcx;obtain⟨Z,hZ⟩:∃Z:List Value,Z=zL:=⟨_,rfl⟩
 have hal:=VV;rw[<-hZ];simp only[<-hZ]at hal;have HZZ:Hid (Z=zL/\Z.length=n1y/\Z.toArray.size=n1y/\(prog.info? n2y).map (·.size)=some Z.toArray.size/\(Z.toArray).all (·.oneCell')=true/\(prog.info? n2y).map (·.size)=some Z.length/\∀u∈Z,u.oneCell'=true):=⟨hZ,by rw[hZ];rfl,by rw[hZ];rfl,by rw[hZ];exact q3y,by rw[hZ];exact sG,by rw[hZ];exact q3y,by rw[hZ];exact wV⟩
 clear hZ;have hgA:((w.alloc (.cells Z.toArray n2y)).alloc (.cells Z.toArray n2y)).heap[w.heap.size]?=some (.cells Z.toArray n2y):=by rw[qxk _ _ _ oe];exact zc w _ rfl
 have hgB:((w.alloc (.cells Z.toArray n2y)).alloc (.cells Z.toArray n2y)).heap[w.heap.size+1]?=some (.cells Z.toArray n2y):=zc _ _ oe;have hu1:Upd (fun _=>False) w ((w.alloc (.cells Z.toArray n2y)).alloc (.cells Z.toArray n2y)):=((uur _ w).alloc _).alloc _;have hs1:((w.alloc (.cells Z.toArray n2y)).alloc (.cells Z.toArray n2y)).heap.size=w.heap.size+2:=oe;have hl1:=hl.keep hu1 id;have hN1:=hN.keep hu1 id;have hfl:=hd.good.fl;obtain⟨c0,c1,c2,-,c4,-⟩:=hl1.c;have hd1:Dv (fun j=>S j/\j≠w.heap.size/\j≠w.heap.size+1) ((w.alloc (.cells Z.toArray n2y)).alloc (.cells Z.toArray n2y)) b F O P:=
  (((hd.but (qXp _)).but (q:=w.heap.size+1) oM).keep hu1 (fun _ _ h=>h)).wide (fun j h=>⟨h.1.1,h.1.2,h.2⟩)
 have hn1:∀j,w.heap.size+2<=j->S j/\j≠w.heap.size/\j≠w.heap.size+1:=fun j hj=>⟨hn j oM,oM,oM⟩
 have HAS:Hid (S w.heap.size):=hn _ (qXp _);have hllt:=hl.lt;have HL:=Y8 hl1 hN1 hu1 hd1 hn1 hSl hSN hs1;clear hl hd hn hSl hN hSN hl1 hN1 hu1 hd1 hn1;go_enter q4y,q5y
 .have z1:decide ((an:Int)<0)=false:=oe;have z2:decide ((n:Int)<=(an:Int))=false:=by simp;omega
  go_wp2_with (first
   |(refine zU rfl _ rfl _ hal ?_)
   |fail)
  generalize (w.alloc (.cells Z.toArray n2y)).alloc (.cells Z.toArray n2y)=w1 at*;obtain⟨T,hT⟩:∃T:Nat->Prop,T=fun j=>S j/\j≠w.heap.size/\j≠w.heap.size+1:=⟨_,rfl⟩
  obtain⟨hl1,hN1,hu1,hd1,hn1,hSl,hSN,-⟩:=HL.o;have hTS:∀j,T j->S j:=fun j h=>by rw[hT]at h;exact h.1
  have hTA:¬T w.heap.size:=fun h=>by rw[hT]at h;exact h.2.1 rfl
  have hTA':∀j,T j->j≠w.heap.size:=fun j h e=>hTA (e▸h);have hTB:¬T (w.heap.size+1):=fun h=>by rw[hT]at h;exact h.2.2 rfl
  have hTl:¬T l:=fun h=>hSl (hTS l h);have hTN:¬T 0:=fun h=>hSN (hTS _ h);rw[<-hT]at hd1;replace hn1:∀j,w1.heap.size<=j->T j:=fun j hj=>by rw[hT];exact hn1 j oM
  have HT:=Y13 hTS hTA hTB hTl hTN hd1 hn1 hu1 hl1 hN1 hgA hgB hTA';have hl1lt:=hl1.lt;clear hT hTS hTA hTB hTl hTN hd1 hn1 hu1 hl1 hN1 hgA hgB hSl hSN hTA' hs1
  go_cut [7,8] (fun s7 s8 wx=>Ja T b F O P (base+an) w1 s7 s8 wx)
  case first=>
   have e1:IntKind.i64.wrap ((base:Int)+(an:Int))=((base+an:Nat):Int):=qxu _ oM;refine qZc (S:=fun W=>W.cell? ⟨l,0,none⟩=some (.pointer (some ⟨b,0,none⟩))/\W.cell? ⟨l,1,none⟩=some (.int .i64 (base:Int))) kR (⟨by rw[qYi];exact c0,by rw[qYi];exact c1⟩) (fun hHeld=>?_);refine Wl.i [0,1,2,3,4,5,6,7,8,9] ?_;iterate 10 refine Wl.t hHeld ?_
   refine Wl.o ?_;refine qYx (rs:=[10,14]) kR oe ?_;refine qxb rfl (fun K hK=>?_) (qxb rfl (fun K hK=>?_) qxc)
   .go_simp
    refine(ux (HT.o.2.2.2.2.2.1.keep ((uur (fun _=>False) w1).drew) (fun _ _ h=>h)) (HT.o.2.2.2.2.2.2.1) (base+an) oM).mono ?_;rintro e w7 ⟨z2,cd2,rfl,hz2,hcd2,hz2l,hd7,hu7⟩;have HZ2:=Y2 hz2 hcd2;clear hz2 hcd2;refine hK.o _ _ (⟨hu7.j3 hHeld.1 HT.o.2.2.2.1,hu7.j3 hHeld.2 HT.o.2.2.2.1⟩) (fun hHeld2=>?_);clear hK K;refine Wl.i [11,12,13] ?_;iterate 3 refine Wl.t hHeld2 ?_
    refine Wl.o ?_;refine Wl.r 14 (fun K hK=>?_);go_simp
    show K _ (w7.alloc (.cells (bkC zB).toArray 60));have hg8:=zc w7 (.cells (bkC zB).toArray 60) rfl;have hu8:Upd (fun _=>False) w7 (w7.alloc (.cells (bkC zB).toArray 60)):=(uur _ _).alloc _;have hw67:w1.heap.size<=w7.heap.size:=hu7.size;have hd8:=(hd7.but (qXp _)).keep hu8 (fun _ _ h=>h);have hU8:Upd T w1 (w7.alloc (.cells (bkC zB).toArray 60)):=((uur _ w1).drew.trans hu7).trans (hu8.mono fE);refine hK.o _ _ (⟨hu8.j3 hHeld2.1 id,hu8.j3 hHeld2.2 id⟩) (fun hHeld3=>?_);clear hK K;generalize w7.heap.size=q at*;generalize w7.alloc (.cells (bkC zB).toArray 60)=w8 at*;refine Wl.r 15 (fun K hK=>?_);rw[if_pos oE];refine qZd _ _ _ rfl _ _ (List.toArray _) rfl rfl jd (by rw[zo _ hz2l];exact zM) (qYo (zx _)) ?_;simp only[Act.put,qXe];refine hK.o _ _ (⟨zN hHeld3.1 oM,zN hHeld3.2 oM⟩) (fun hHeld4=>?_);clear hK K;refine Wl.r 16 (fun K hK=>?_);go_simp
    refine hK.o _ _ (hHeld4) (fun _=>?_);clear hK K;refine Wl.d ?_;clear hHeld4 e1;go_wp2_with fail
    go_meet
    case rel=>exact⟨q,z2,cd2,rfl,rfl,vz hg8 zH hz2l,hw67,HZ2.o.1,HZ2.o.2,hz2l,hd8.keep (zn w8 q 0 (bkC z2)) (fun j h e=>h.2 e),hU8.trans ((zn w8 q 0 (bkC z2)).mono (fun j _ e=>e▸HT.o.2.2.2.2.2.2.1 _ hw67))⟩
   .go_simp
    show K _ (w1.drew.alloc (.cells (bkC zB).toArray 60));have hg7:(w1.drew.alloc (.cells (bkC zB).toArray 60)).heap[w1.heap.size]?=some (.cells (bkC zB).toArray 60):=zc w1.drew _ rfl;have hu7a:Upd (fun _=>False) w1 (w1.drew.alloc (.cells (bkC zB).toArray 60)):=((uur _ w1).drew).alloc _;have hd7a:Dv (fun j=>T j/\j≠w1.heap.size) (w1.drew.alloc (.cells (bkC zB).toArray 60)) b F O P:=(HT.o.2.2.2.2.2.1.but (qXp _)).keep hu7a (fun _ _ h=>h);have hs7a:(w1.drew.alloc (.cells (bkC zB).toArray 60)).heap.size=w1.heap.size+1:=oe;refine hK.o _ _ (⟨hu7a.j3 c0 id,hu7a.j3 c1 id⟩) (fun hHeld2=>?_);clear hK K;generalize w1.drew.alloc (.cells (bkC zB).toArray 60)=w7a at*;refine Wl.r 10 (fun K hK=>?_);go_simp
    refine(ux (hd7a) (fun j hj=>⟨HT.o.2.2.2.2.2.2.1 j oM,oM⟩) (base+an) oM).mono ?_;rintro e w7 ⟨z2,cd2,rfl,hz2,hcd2,hz2l,hd7,hu7⟩;have HZ2:=Y2 hz2 hcd2;clear hz2 hcd2;have hg8:=(hu7.block w1.heap.size (zd hg7) (fun h=>h.2 rfl)).trans hg7;refine hK.o _ _ (⟨hu7.j3 hHeld2.1 (fun h=>HT.o.2.2.2.1 h.1),hu7.j3 hHeld2.2 (fun h=>HT.o.2.2.2.1 h.1)⟩) (fun hHeld3=>?_);clear hK K;refine Wl.i [11,12,13] ?_;iterate 3 refine Wl.t hHeld3 ?_
    refine Wl.o ?_;refine Wl.r 15 (fun K hK=>?_);rw[if_pos oE];refine qZd _ _ _ rfl _ _ (List.toArray _) rfl rfl jd (by rw[zo _ hz2l];exact zM) (qYo (zx _)) ?_;simp only[Act.put,qXe];refine hK.o _ _ (⟨zN hHeld3.1 oM,zN hHeld3.2 oM⟩) (fun hHeld4=>?_);clear hK K;refine Wl.r 16 (fun K hK=>?_);go_simp
    refine hK.o _ _ (hHeld4) (fun _=>?_);clear hK K;refine Wl.d ?_;clear hHeld4 e1;go_wp2_with fail
    go_meet
    case rel=>exact⟨w1.heap.size,z2,cd2,rfl,rfl,vz hg8 zH hz2l,qXp _,HZ2.o.1,HZ2.o.2,hz2l,hd7.keep (zn w7 w1.heap.size 0 (bkC z2)) (fun j h e=>h.2 e),((hu7a.mono fE).trans (hu7.mono (fun j _ h=>h.1))).trans ((zn w7 w1.heap.size 0 (bkC z2)).mono (fun j _ e=>e▸HT.o.2.2.2.2.2.2.1 _ (qXp _)))⟩
  case rest=>
   obtain⟨q,v,cd2,rfl,rfl,hgq,hq,hv,hcd2,hvl,hdx,hux⟩:=hcut;have hgA:=(hux.block _ (zd HT.o.2.2.2.2.2.2.2.2.2.2.1) HT.o.2.1).trans HT.o.2.2.2.2.2.2.2.2.2.2.1;have hgB:=(hux.block _ (zd HT.o.2.2.2.2.2.2.2.2.2.2.2.1) HT.o.2.2.1).trans HT.o.2.2.2.2.2.2.2.2.2.2.2.1;have hlx:=HT.o.2.2.2.2.2.2.2.2.1.keep hux HT.o.2.2.2.1;have hNx:=HT.o.2.2.2.2.2.2.2.2.2.1.keep hux HT.o.2.2.2.2.1;have hUx:Upd S w wc:=(HT.o.2.2.2.2.2.2.2.1.mono fE).trans (hux.mono (fun j _ h=>HT.o.1 j h));have hdT:Dv T wc b F O P.tail:=hdx.wide (fun j h=>h.1);have rq:=zg hgq;have c4':=hlx.c.2.2.2.2.1;have HQ:=Y9 hdT hUx hlx hNx hgA hgB hvl hv hcd2;have hqlt:=zd hgq;have hAlt:=zd hgA;have hBlt:=zd hgB;have hllx:=hlx.lt;have rB:=zg hgB;have tA:=zF (n:=n1y) hgA oy;clear hgq hq hv hcd2 hvl hdx hux hlx hNx hUx hdT hgA hgB c0 c1 c2 c4;have e0:cd2=0:=by rw[HQ.o.2.2.2.2.2.2.2.2,if_neg hf]
   have ez:v=curB F O (base+an):=by rw[HQ.o.2.2.2.2.2.2.2.1,if_neg hf]
   subst e0;have hq0:∀W,(Op.equalIn 10000 60 (.agg (bkC v).toArray) (.agg #[.int .u8 0,.int .u8 0,.int .u8 0,.int .u8 0,.int .u8 0,.int .u8 0,.int .u8 0,.int .u8 0,.int .u8 0,.int .u8 0,.int .u8 0,.int .u8 0,.int .u8 0,.int .u8 0,.int .u8 0,.int .u8 0,.int .u8 0,.int .u8 0,.int .u8 0,.int .u8 0,.int .u8 0,.int .u8 0,.int .u8 0,.int .u8 0,.int .u8 0,.int .u8 0,.int .u8 0,.int .u8 0,.int .u8 0,.int .u8 0,.int .u8 0,.int .u8 0,.int .u8 0,.int .u8 0,.int .u8 0,.int .u8 0,.int .u8 0,.int .u8 0,.int .u8 0,.int .u8 0,.int .u8 0,.int .u8 0,.int .u8 0,.int .u8 0,.int .u8 0,.int .u8 0,.int .u8 0,.int .u8 0,.int .u8 0,.int .u8 0,.int .u8 0,.int .u8 0,.int .u8 0,.int .u8 0,.int .u8 0,.int .u8 0,.int .u8 0,.int .u8 0,.int .u8 0,.int .u8 0,.int .u8 0,.int .u8 0,.int .u8 0,.int .u8 0])).run prog W=.ok (v==zB) W:=UH v zB HQ.o.2.2.2.2.2.2.1 zH;by_cases h0:v=zB
   .have hb0:(v==zB)=true:=by simpa using h0
    have HD:Hid (Dv (fun j=>T j/\j≠w.heap.size) wc b F O P.tail/\Upd S w wc):=⟨(HQ.o.1).wide (fun j h=>⟨h,HT.o.2.2.2.2.2.2.2.2.2.2.2.2 j h⟩),HQ.o.2.1⟩
    obtain rfl:cx=14:=HCX.o.trans (if_pos (ez▸h0));clear h0 ez;go_wp2_with (first
     |(refine qYz rfl _ _ rfl _ _ rfl _ _ rq underlying60 rfl (zu _ HQ.o.2.2.2.2.2.2.1) ?_)
     |(refine qYz rfl _ _ rfl _ _ rfl _ _ rB q6y rfl HZZ.o.2.2.2.2.2.1 ?_)
     |(refine qZb rfl _ _ _ rfl _ _ Z.toArray rfl rfl (by rw[HZZ.o.2.2.1];exact tA) HZZ.o.2.2.2.1 HZZ.o.2.2.2.2.1 ?_)
     |fail)
    refine qYq (zp rfl _ _ w.heap.size 0 Z _ rfl (qYl _ _ _ _ jS) q6y rfl HZZ.o.2.2.2.2.2.1) rfl ?_;exact⟨rfl,HD.o.1.keep (zn _ w.heap.size 0 _) (fun j h e=>h.2 e)|>.wide (fun j h=>HT.o.1 j h.1),HD.o.2.trans ((zn _ w.heap.size 0 _).mono (fun j _ e=>e▸HAS.o))⟩
   .have hb0:(v==zB)=false:=by simpa using h0
    have HS:Hid (sealB v≠v):=by show _≠_;rcases hz.out with h|h;exact absurd (ez.trans h) h0;rw[ez];exact h
    obtain rfl:cx=12:=HCX.o.trans (if_neg (ez▸h0));clear h0 ez;go_wp2_with (first
     |(refine qYz rfl _ _ rfl _ _ rfl _ _ rq underlying60 rfl (zu _ HQ.o.2.2.2.2.2.2.1) ?_)
     |fail)
    clear hq0 rB tA;obtain⟨wd,hwd⟩:∃wd:World,wd=wc:=⟨_,rfl⟩
    go_cut [9,8] (fun s9 s8 wx=>zcZ n2y wd s9 s8 wx)
    case first=>
     subst hwd;refine qZc (S:=fun W=>W.cell? ⟨l,4,none⟩=some (.func (.func n7y) #[] #[])/\W.rangeAt q 0 (bkC v)) kR (⟨by rw[qYi];exact c4',by rw[qYk];exact rq⟩) (fun hHeld=>?_);refine Wl.i [0,1,2,3] ?_;iterate 4 refine Wl.t hHeld ?_
     refine Wl.o ?_;refine Wl.l 4 (fun w h=>h.2) underlying60 (zu _ HQ.o.2.2.2.2.2.2.1) hHeld ?_;refine qYx (rs:=[5,9]) kR oe ?_;refine qxb rfl (fun K' hK=>?_) (qxb rfl (fun K' hK=>?_) qxc)
     .go_simp
      refine(q8y (bkC v) (zu _ HQ.o.2.2.2.2.2.2.1) n7y #[] (fun _ _=>rfl) (fun rs cd=>cd≠0/\rs.length=n1y/\∀u∈rs,u.oneCell'=true) (fun ys cd h=>h.2) (fun W hW=>(q9y ((HQ.o.2.2.2.1.keep ((uur (fun _=>False) _).drew) id).below hW) v HQ.o.2.2.2.2.2.2.1 HS.o).mono (fun e w' h=>Tu ⟨HZZ.o.2.1,HZZ.o.2.2.2.2.2.2⟩ (by rw[HZZ.o.1];exact h)))).mono ?_;rintro e w3 ⟨rs,cd,hR,rfl,hb3⟩;have HR:=qqh hR;clear hR;refine hK.o _ _ (⟨(uuo (S:=fun _=>False) hb3).j3 hHeld.1 id,Below.range hb3 hHeld.2⟩) (fun hHeld2=>?_);clear hK K';refine Wl.i [6,7,8] ?_;iterate 3 refine Wl.t hHeld2 ?_
      refine Wl.o ?_;refine qYx (rs:=[9]) kR oe ?_;refine qxb rfl (fun K' hK=>?_) qxc;go_simp
      show K' _ (w3.alloc (.cells zL.toArray n2y));rw[<-HZZ.o.1];have hg4:=zc w3 (.cells Z.toArray n2y) rfl;have hu4:Upd (fun _=>False) w3 (w3.alloc (.cells Z.toArray n2y)):=(uur _ _).alloc _;have hsz4:wd.heap.size<=w3.heap.size:=hb3.size;have hB4:Below wd.heap.size wd (w3.alloc (.cells Z.toArray n2y)):=(yy hb3).alloc hsz4 _;refine hK.o _ _ (⟨hu4.j3 hHeld2.1 id,hu4.range hHeld2.2 id⟩) (fun hHeld3=>?_);clear hK K';generalize w3.heap.size=p at*;generalize w3.alloc (.cells Z.toArray n2y)=w4 at*;refine qYx (rs:=[10]) kR oe ?_;refine qxb rfl (fun K' hK=>?_) qxc;rw[if_pos oE];refine qZd _ _ _ rfl _ _ (List.toArray _) rfl rfl jM ja (qYo HR.o.2.2) ?_;simp only[Act.put,qXe];refine hK.o _ _ (⟨zN hHeld3.1 oM,(zn w4 p 0 rs).range hHeld3.2 oM⟩) (fun hHeld4=>?_);clear hK K';refine qYx (rs:=[11]) kR oe ?_;refine qxb rfl (fun K' hK=>?_) qxc;go_simp
      refine hK.o _ _ (hHeld4) (fun _=>?_);clear hK K';refine Wl.d ?_;clear hHeld4;go_wp2_with fail
      go_meet
      case rel=>exact⟨p,rs,cd,rfl,rfl,sH hg4 (by rw[HR.o.2.1];exact HZZ.o.2.2.1),oM,zj hB4 (zn w4 p 0 rs) (qXp _) (fun k e=>oM),HR.o.1⟩
     .go_simp
      show K' _ (wd.drew.alloc (.cells zL.toArray n2y));rw[<-HZZ.o.1];have hg2:(wd.drew.alloc (.cells Z.toArray n2y)).heap[wd.heap.size]?=some (.cells Z.toArray n2y):=zc wd.drew _ rfl;have hu2:Upd (fun _=>False) wd.drew (wd.drew.alloc (.cells Z.toArray n2y)):=(uur _ _).alloc _;have hB2:Below wd.heap.size wd (wd.drew.alloc (.cells Z.toArray n2y)):=(zP (qxl _ wd) 1).alloc (qXp _) _;have hN2:=(HQ.o.2.2.2.1.keep ((uur (fun _=>False) _).drew) id).keep hu2 id;refine hK.o _ _ (⟨hu2.j3 hHeld.1 id,hu2.range hHeld.2 id⟩) (fun hHeld2=>?_);clear hK K';generalize wd.drew.alloc (.cells Z.toArray n2y)=w2 at*;refine qYx (rs:=[5]) kR oe ?_;refine qxb rfl (fun K' hK=>?_) qxc;go_simp
      refine(q8y (bkC v) (zu _ HQ.o.2.2.2.2.2.2.1) n7y #[] (fun _ _=>rfl) (fun rs cd=>cd≠0/\rs.length=n1y/\∀u∈rs,u.oneCell'=true) (fun ys cd h=>h.2) (fun W hW=>(q9y (hN2.below hW) v HQ.o.2.2.2.2.2.2.1 HS.o).mono (fun e w' h=>Tu ⟨HZZ.o.2.1,HZZ.o.2.2.2.2.2.2⟩ (by rw[HZZ.o.1];exact h)))).mono ?_;rintro e w3 ⟨rs,cd,hR,rfl,hb3⟩;have HR:=qqh hR;clear hR;have hg4:=(hb3.block wd.heap.size (zd hg2)).trans hg2;have hB4:Below wd.heap.size wd w3:=hB2.trans (hb3.mono hB2.size);refine hK.o _ _ (⟨(uuo (S:=fun _=>False) hb3).j3 hHeld2.1 id,Below.range hb3 hHeld2.2⟩) (fun hHeld3=>?_);clear hK K';refine Wl.i [6,7,8] ?_;iterate 3 refine Wl.t hHeld3 ?_
      refine Wl.o ?_;refine qYx (rs:=[10]) kR oe ?_;refine qxb rfl (fun K' hK=>?_) qxc;rw[if_pos oE];refine qZd _ _ _ rfl _ _ (List.toArray _) rfl rfl jM ja (qYo HR.o.2.2) ?_;simp only[Act.put,qXe];refine hK.o _ _ (⟨zN hHeld3.1 oM,(zn w3 wd.heap.size 0 rs).range hHeld3.2 oM⟩) (fun hHeld4=>?_);clear hK K';refine qYx (rs:=[11]) kR oe ?_;refine qxb rfl (fun K' hK=>?_) qxc;go_simp
      refine hK.o _ _ (hHeld4) (fun _=>?_);clear hK K';refine Wl.d ?_;clear hHeld4;go_wp2_with fail
      go_meet
      case rel=>exact⟨wd.heap.size,rs,cd,rfl,rfl,sH hg4 (by rw[HR.o.2.1];exact HZZ.o.2.2.1),qXp _,zj hB4 (zn w3 wd.heap.size 0 rs) (qXp _) (fun k e=>oM),HR.o.1⟩
    case rest=>
     subst hwd;obtain⟨p,rs,cd3,rfl,rfl,hgp,hp,hbx,hno⟩:=hcut;have hbs:=hbx.size;have hgA:=(hbx.block _ hAlt).trans HQ.o.2.2.2.2.1;have hgB:=(hbx.block _ hBlt).trans HQ.o.2.2.2.2.2.1;have hd2:=HQ.o.1.below hbx;have hU2:Upd S w wc:=HQ.o.2.1.trans ((uuo (S:=fun _=>False) hbx).mono fE);have hl2:=HQ.o.2.2.1.below hbx;have rp:=zg hgp;have rB:=zg hgB;have tA:=zF (n:=n1y) hgA oy;have HZ:=Y5 hd2 hU2 hl2 hgA hgB;have hplt:=zd hgp;clear hgp hp hbx hgA hgB hd2 hU2 hl2 rq c4';have hc0:(cd3==0)=false:=by simpa using hno
     have HD:Hid (Dv (fun j=>T j/\j≠w.heap.size) wc b F O P.tail/\Upd S w wc):=⟨HZ.o.1.wide (fun j h=>⟨h,HT.o.2.2.2.2.2.2.2.2.2.2.2.2 j h⟩),HZ.o.2.1⟩
     clear hno;go_wp2_with (first
      |(refine qYz rfl _ _ rfl _ _ rfl _ _ rB q6y rfl HZZ.o.2.2.2.2.2.1 ?_)
      |(refine qZb rfl _ _ _ rfl _ _ Z.toArray rfl rfl (by rw[HZZ.o.2.2.1];exact tA) HZZ.o.2.2.2.1 HZZ.o.2.2.2.2.1 ?_)
      |fail)
     refine qYq (zp rfl _ _ w.heap.size 0 Z _ rfl (qYl _ _ _ _ jS) q6y rfl HZZ.o.2.2.2.2.2.1) rfl ?_;exact⟨rfl,HD.o.1.keep (zn _ w.heap.size 0 _) (fun j h e=>h.2 e)|>.wide (fun j h=>HT.o.1 j h.1),HD.o.2.trans ((zn _ w.heap.size 0 _).mono (fun j _ e=>e▸HAS.o))⟩):P:=h
theorem vG{P:Prop}(h:P:=by
 have hfl:=hd.good.fl;obtain⟨-,-,c2,-⟩:=hl.c;have H:=Y7 hl hd hn hSl hN hSN hz;clear hl hd hn hSl hN hSN hz;go_enter zda,zdb
 go_wp2
 go_step3
 go_wp2
 go_step3
 go_wp2
 go_loopg[4,5,15] n (fun gk s4 s5 s15 wr=>∃i:Nat,i+gk=n/\s15=.int .i64 i/\s5=.int .i64 0/\s4=.slice none 0 0/\Dv S wr b F O []/\Upd S w wr)
 case atStart=>exact⟨0,oM,rfl,rfl,rfl,H.o.2.1,uur _ _⟩
 case round=>
  obtain⟨i,hi,rfl,rfl,rfl,hd,hU⟩:=hrel;obtain⟨hl,-,hn,hSl,hN,hSN,hz⟩:=H.o;by_cases hlt:i<n
  .have HG:=qqh (zdc (hl.keep hU hSl) hd (fun j hj=>hn j (qXr hU.size hj)) hSl (hN.keep hU hSN) hSN hbn de hlt ((hz i hlt).imp_right And.right));have HU:=qqh hU;have k1:(i:Int)<(n:Int):=oM;clear hl hd hn hSl hN hSN hz hU;go_wp2_with fail
   refine HG.o.mono ?_;rintro e w9 ⟨rfl,hd9,hU9⟩;have H9:=Y2 hd9 (HU.o.trans hU9);clear hd9 hU9 HG;by_cases h0:curB F O (base+i)=zB
   .rw [if_pos h0];clear h0;generalize hZZ:zL=Z at*;have hsz:Hid ((prog.info? n2y).map (·.size)=some Z.length/\Z.length=n1y/\∀u∈Z,u.oneCell'=true):=by subst hZZ;exact⟨q3y,rfl,wV⟩
    replace hZZ:=qqh hZZ;go_wp2_with (first
     |(refine zk rfl _ _ _ rfl _ _ _ rfl rfl (by rw[hsz.out.2.1];rfl) hsz.out.1 hsz.out.2.2 ?_)
     |fail)
    obtain⟨hd9,hU9⟩:=H9.o;have hua:Upd (fun _=>False) w9 (w9.alloc (.cells Z.toArray n2y)):=(uur _ _).alloc _;have hd10:=hd9.new hua;have hU10:=hU9.trans (hua.mono fE);generalize w9.alloc (.cells Z.toArray n2y)=w10 at*;go_roundg (gk-1)
    case measure=>omega
    case rel=>exact⟨i+1,oM,by go_num,rfl,rfl,hd10,hU10⟩
   .have hbd:bad:=((H.o.2.2.2.2.2.2 i hlt).resolve_left h0).1;rw[if_neg h0];clear h0;generalize hZZ:zL=Z at*;have hsz:Hid ((prog.info? n2y).map (·.size)=some Z.length/\Z.length=n1y/\∀u∈Z,u.oneCell'=true):=by subst hZZ;exact⟨q3y,rfl,wV⟩
    replace hZZ:=qqh hZZ;go_wp2_with (first
     |(refine zk rfl _ _ _ rfl _ _ _ rfl rfl (by rw[hsz.out.2.1];rfl) hsz.out.1 hsz.out.2.2 ?_)
     |fail)
    try rw[qxr]
    obtain⟨hd9,hU9⟩:=H9.o;have hua:Upd (fun _=>False) w9 (w9.alloc (.cells Z.toArray n2y)):=(uur _ _).alloc _;have hd10:=hd9.new hua;have hU10:=hU9.trans (hua.mono fE);generalize w9.alloc (.cells Z.toArray n2y)=w10 at*;go_ret2
    exact⟨12,.inr ⟨hbd,rfl⟩,rfl,hd10,hU10⟩
  .obtain rfl:i=n:=oM;have k1:¬((i:Int)<(i:Int)):=oM;have HE:=Y2 hd hU;clear hl hd hn hSl hN hSN hz hU;go_wp2_with fail
   try rw[qxr]
   go_ret2
   exact⟨0,.inl rfl,rfl,HE.o.1,HE.o.2⟩):P:=h
def zcY(S:Nat->Prop)(w:World)(b:Nat)(F:List Bk)(O:List (Nat×Bk))(P:List Int)(zs:List Value)(cd:Int)(e:Ending)(w':World):Prop:=
 e=.returned (.tuple #[.agg zs.toArray,.int .i64 cd])/\Dv S w' b F O P/\Upd S w w'
def zgH(S:Nat->Prop)(w:World)(b:Nat)(F:List Bk)(O:List (Nat×Bk))(cd:Int)(e:Ending)(w':World):Prop:=
 e=.returned (.tuple #[.slice none 0 0,.int .i64 cd])/\Dv S w' b F O []/\Upd S w w'
def zcZ(t:TypeId)(w2:World)(s9 s8:Value)(wx:World):Prop:=
 ∃q rs cd,s9=.pointer (some ⟨q,0,none⟩)/\s8=.int .i64 cd/\wx.heap[q]?=some (.cells (rs:List Value).toArray t (0,0))/\w2.heap.size<=q/\Below w2.heap.size w2 wx/\cd≠0
theorem Tu{w':World}{zs:List Value}(j:zs.length=n/\∀u∈zs,u.oneCell'=true){e:Ending}(k:yq w false [] zs 13 e w'):
  yu w (fun a c=>c≠0/\a.length=n/\∀u∈a,u.oneCell'=true) e w':=by
 obtain⟨⟨a,-,h2,rfl⟩,p⟩:=k;exact⟨a,13,⟨de,by rw[h2 rfl];exact j⟩,rfl,p⟩
theorem sH{p:Nat}{cs:Array Value}{a:List Value}{t:TypeId}(h:w.heap[p]?=some (.cells cs t (0,0)))(k:cs.size=a.length):(w.setCells p 0 a).heap[p]?=some (.cells a.toArray t (0,0)):=by
 obtain⟨q,h2,v,s⟩:=zy a 0 w p _ t (0,0) h;rw[h2];have:q=a.toArray:=by
  apply qxd
  intro j;have e:a.toArray[j]?=a[j]?:=oe;rw[s j,e,k];by_cases A:j<a.length
  .rw [if_pos ⟨oM,oM,oM⟩];rfl
  .rw [if_neg oM,qxf oM,qyl oM]
 rw[this]
def Rg(bad:Prop)(S:Nat->Prop)(w:World)(b:Nat)(F:List Bk)(O:List (Nat×Bk))(e:Ending)(w':World):Prop:=∃cd,(cd=0\/bad/\cd=12)/\zgH S w b F O cd e w'
namespace fLogYI
def zL:List Value:=[Value.int .i64 0,Value.int .i64 0,Value.int .i64 0,Value.int .i64 0]
theorem sG:(zL.toArray).all (·.oneCell')=true:=by simp[zL,Value.oneCell']
theorem wV:∀u∈zL,u.oneCell'=true:=by intro u a;simp[zL]at a;subst a;rfl
theorem VV(w:World):(Instr.alloc 117 true (.tuple #[])).run prog w=.ok (.pointer (some ⟨w.heap.size,0,none⟩)) (w.alloc (.cells zL.toArray 117)):=by
 kernel_rfl
end fLogYI
namespace fLogYI
abbrev n1y:Nat:=4
abbrev n2y:Nat:=117
theorem q3y:type_of% @tT:= @tT
theorem q4y:type_of% @func182:= @func182
theorem q5y:type_of% @ntmps182:= @ntmps182
theorem q6y:type_of% @underlying117:= @underlying117
abbrev n7y:Nat:=149
theorem q8y:type_of% @Td:= @Td
theorem q9y:type_of% @Tp:= @Tp
end fLogYI
open fLogYI in
theorem Tv{S:Nat->Prop}{w:World}{l b base n fi:Nat}{F:List Bk}{O:List (Nat×Bk)}{P:List Int}(hl:LogI w l b base n fi)(hd:Dv S w b F O P)(hn:∀j,w.heap.size<=j->S j)(hSl:¬S l)(hN:Nib w)
  (hSN:¬S 0) (a:base+n<=F.length) (hf:¬fate P=1) {an:Nat} (s:an<n) (hz:curB F O (base+an)=zB\/sealB (curB F O (base+an))≠curB F O (base+an)):
  Calls prog 182 #[.pointer (some ⟨l,0,none⟩),.int .i64 (an:Int)] w (zcY S w b F O P.tail zL (if curB F O (base+an)=zB then 14 else 12)):=vF
namespace fLogYI
theorem zda:type_of% @func159:= @func159
theorem zdb:type_of% @ntmps159:= @ntmps159
theorem zdc:type_of% @Tv:= @Tv
end fLogYI
open fLogYI in
theorem zaw{bad:Prop}(hl:LogI w l b base n fi)(hd:Dv S w b F O [])(hn:∀j,w.heap.size<=j->S j)(hSl:¬S l)(hN:Nib w)
  (hSN:¬S 0) (hbn:base+n<=F.length) (hz:∀i,i<n->curB F O (base+i)=zB\/bad/\sealB (curB F O (base+i))≠curB F O (base+i)):
  Calls prog 159 #[.pointer (some ⟨l,0,none⟩)] w (Rg bad S w b F O):=vG
namespace fLogYC
def zL:List Value:=[Value.int .i64 0,Value.int .i64 0,Value.int .i64 0,Value.int .i64 0,Value.int .i64 0,Value.int .i64 0]
theorem sG:(zL.toArray).all (·.oneCell')=true:=by simp[zL,Value.oneCell']
theorem wV:∀u∈zL,u.oneCell'=true:=by intro u a;simp[zL]at a;subst a;rfl
theorem VV(w:World):(Instr.alloc 187 true (.tuple #[])).run prog w=.ok (.pointer (some ⟨w.heap.size,0,none⟩)) (w.alloc (.cells zL.toArray 187)):=by
 kernel_rfl
end fLogYC
namespace fLogYC
abbrev n1y:Nat:=6
abbrev n2y:Nat:=187
theorem q3y:type_of% @Yx:= @Yx
theorem q4y:type_of% @func113:= @func113
theorem q5y:type_of% @ntmps113:= @ntmps113
theorem q6y:type_of% @underlying187:= @underlying187
abbrev n7y:Nat:=153
theorem q8y:type_of% @Te:= @Te
theorem q9y:type_of% @Tr:= @Tr
end fLogYC
open fLogYC in
theorem Tw{S:Nat->Prop}{w:World}{l b base n fi:Nat}{F:List Bk}{O:List (Nat×Bk)}{P:List Int}(hl:LogC w l b base n fi)(hd:Dv S w b F O P)(hn:∀j,w.heap.size<=j->S j)(hSl:¬S l)(hN:Nib w)
  (hSN:¬S 0) (a:base+n<=F.length) (hf:¬fate P=1) {an:Nat} (s:an<n) (hz:curB F O (base+an)=zB\/sealB (curB F O (base+an))≠curB F O (base+an)):
  Calls prog 113 #[.pointer (some ⟨l,0,none⟩),.int .i64 (an:Int)] w (zcY S w b F O P.tail zL (if curB F O (base+an)=zB then 14 else 12)):=vF
namespace fLogYC
theorem zda:type_of% @func119:= @func119
theorem zdb:type_of% @ntmps119:= @ntmps119
theorem zdc:type_of% @Tw:= @Tw
end fLogYC
open fLogYC in
theorem zax{bad:Prop}(hl:LogC w l b base n fi)(hd:Dv S w b F O [])(hn:∀j,w.heap.size<=j->S j)(hSl:¬S l)(hN:Nib w)
  (hSN:¬S 0) (hbn:base+n<=F.length) (hz:∀i,i<n->curB F O (base+i)=zB\/bad/\sealB (curB F O (base+i))≠curB F O (base+i)):
  Calls prog 119 #[.pointer (some ⟨l,0,none⟩)] w (Rg bad S w b F O):=vG
namespace fLogYF
def zL:List Value:=[Value.int .i64 0,Value.int .i64 0,Value.int .i64 0,Value.int .i64 0,Value.int .i64 0,Value.int .i64 0,Value.int .i64 0,Value.int .i64 0,Value.int .i64 0,Value.int .i64 0,Value.int .i64 0,Value.int .i64 0,Value.int .i64 0]
theorem sG:(zL.toArray).all (·.oneCell')=true:=by simp[zL,Value.oneCell']
theorem wV:∀u∈zL,u.oneCell'=true:=by intro u a;simp[zL]at a;subst a;rfl
theorem VV(w:World):(Instr.alloc 192 true (.tuple #[])).run prog w=.ok (.pointer (some ⟨w.heap.size,0,none⟩)) (w.alloc (.cells zL.toArray 192)):=by
 kernel_rfl
end fLogYF
namespace fLogYF
abbrev n1y:Nat:=13
abbrev n2y:Nat:=192
theorem q3y:type_of% @Yy:= @Yy
theorem q4y:type_of% @func114:= @func114
theorem q5y:type_of% @ntmps114:= @ntmps114
theorem q6y:type_of% @underlying192:= @underlying192
abbrev n7y:Nat:=157
theorem q8y:type_of% @Tf:= @Tf
theorem q9y:type_of% @Tt:= @Tt
end fLogYF
open fLogYF in
theorem Tx{S:Nat->Prop}{w:World}{l b base n fi:Nat}{F:List Bk}{O:List (Nat×Bk)}{P:List Int}(hl:LogF w l b base n fi)(hd:Dv S w b F O P)(hn:∀j,w.heap.size<=j->S j)(hSl:¬S l)(hN:Nib w)
  (hSN:¬S 0) (a:base+n<=F.length) (hf:¬fate P=1) {an:Nat} (s:an<n) (hz:curB F O (base+an)=zB\/sealB (curB F O (base+an))≠curB F O (base+an)):
  Calls prog 114 #[.pointer (some ⟨l,0,none⟩),.int .i64 (an:Int)] w (zcY S w b F O P.tail zL (if curB F O (base+an)=zB then 14 else 12)):=vF
namespace fLogYF
theorem zda:type_of% @func226:= @func226
theorem zdb:type_of% @ntmps226:= @ntmps226
theorem zdc:type_of% @Tx:= @Tx
end fLogYF
open fLogYF in
theorem zay{bad:Prop}(hl:LogF w l b base n fi)(hd:Dv S w b F O [])(hn:∀j,w.heap.size<=j->S j)(hSl:¬S l)(hN:Nib w)
  (hSN:¬S 0) (hbn:base+n<=F.length) (hz:∀i,i<n->curB F O (base+i)=zB\/bad/\sealB (curB F O (base+i))≠curB F O (base+i)):
  Calls prog 226 #[.pointer (some ⟨l,0,none⟩)] w (Rg bad S w b F O):=vG
end Go.Proofs.YtpejdgiccaijfaaGreatDoor
