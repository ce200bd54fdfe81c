/- What a cache's -/
import Derived.Test.YtfhfbpmlnjdfoaaGreatDoorG31
set_option maxRecDepth 100000
set_option maxHeartbeats 2000000
namespace Go.Proofs.YtfhfbpmlnjdfoaaGreatDoor
open Go Go.RowKit Tryz
section
theorem Sx{xs:List Int}(hx:xs.length=7)(h:mayR xs=true):okR (sectR xs)=true/\natsI (numsR (sectR xs))=xs:=by
 obtain⟨h0,hf⟩:=uV hx h;obtain⟨s1,s2⟩:=tm (k:=2) de (sz:=UO) jX h0 hf (mayR (natsI (numsR (sectR xs))));have h3:natsI (numsR (sectR xs))=xs:=s2;refine⟨?_,h3⟩;unfold okR;rw[show okGet (sectR xs) 2 UO (mayR (natsI (numsR (sectR xs))))=mayR (natsI (numsR (sectR xs)))from s1,h3];exact h
theorem zaJ:okR zB=false:=kR
theorem Yo{α:Type}(f:α->Int):∀{L L':List α},L.Pairwise (fun x y=>f x<f y)->L'.Pairwise (fun x y=>f x<f y)->(∀x,x∈L↔x∈L')->L=L'
 |[],[],_,_,_=>rfl
 |[],y::L',_,_,h=>by cases (h y).2 qzt
 |x::L,[],_,_,h=>by cases (h x).1 qzt
 |x::L,y::L',h1,h2,h=>by
  rw[List.pairwise_cons]at h1 h2;have exy:x=y:=by
   rcases qzr.1 ((h x).1 qzt)with e|hx
   .exact e
   .rcases qzr.1 ((h y).2 qzt)with e|hy
    .exact e.symm
    .have:=h1.1 y hy;have:=h2.1 x hx;omega
  subst exy
  congr 1
  refine Yo f h1.2 h2.2 (fun z=>⟨fun hz=>?_,fun hz=>?_⟩)
  .rcases qzr.1 ((h z).1 (qzs _ hz))with rfl|hz'
   .have:=h1.1 _ hz;omega
   .exact hz'
  .rcases qzr.1 ((h z).2 (qzs _ hz))with rfl|hz'
   .have:=h2.1 _ hz;omega
   .exact hz'
def rcN(R:Nat->List Int)(t:Nat):List Nat:=numsR (sectR (R t))
section
variable{n:CaN}{Z:Nat->Bk}{a:CaS}{E:Nat->List Ent}{R:Nat->List Int}{f0 com fp:Nat}
theorem Hs.recN(h:Hs n Z a E R f0 com fp){t:Nat}(h1:f0<t)(h2:t<a.next):natsI (rcN R t)=R t/\rseq (rcN R t)=t/\Ye n.jo ((t-1)%n.jo) (sectR (R t))=true:=by
 obtain⟨⟨q1,q2,q3,q4⟩,-⟩:=h.rc t h1 h2;obtain⟨e1,e2⟩:=Sx q1 q2;have g0:(numsR (sectR (R t))).getD 0 0=t:=by
  have:=yp (numsR (sectR (R t))) 0;rw[e2,q3]at this;omega
 have g1:(numsR (sectR (R t))).getD 1 0=(t-1)/n.jo:=by
  have:=yp (numsR (sectR (R t))) 1;rw[e2,q4]at this;exact(Int.ofNat_inj.1 this).symm
 refine⟨e2,g0,?_⟩;unfold Ye;rw[e1,g0,g1];simp
theorem Hs.scan(h:Hs n Z a E R f0 com fp):∀k,k<=n.jo->
  (∀r∈scanTo a.dF [] n.jb n.jo k,∃t,f0<t/\t<=fp/\(t-1)%n.jo<k/\r=rcN R t)/\(scanTo a.dF [] n.jb n.jo k).Pairwise (fun x y=>rseq x≠rseq y)/\(∀t,a.cov<t->t<=com->(t-1)%n.jo<k->rcN R t∈scanTo a.dF [] n.jb n.jo k)
 |0,_=>⟨fun r hr=>(by cases hr),List.Pairwise.nil,fun t _ _ h=>oM⟩
 |k+1,hk=>by
  obtain⟨i1,i2,i3⟩:=Hs.scan h k oM;have c4:=h.c4;have hcur:curB a.dF [] (n.jb+k)=a.dF.getD (n.jb+k) zB:=rfl;have hnew:∀r∈scL n.jo k (a.dF.getD (n.jb+k) zB),∃t,f0<t/\t<=fp/\(t-1)%n.jo=k/\r=rcN R t:=fun r hr=>by
   rcases h.jr k oM with e|⟨t,t1,t2,t3,e⟩
   .rw [e]at hr;unfold scL Ye at hr;rw[zaJ]at hr;simp at hr
   .rw [e]at hr;unfold scL at hr;split at hr
    .exact ⟨t,t1,t2,t3,qzy.1 hr⟩
    .cases hr
  rw[scanTo,hcur];refine⟨fun r hr=>?_,?_,fun t t1 t2 t3=>?_⟩
  .rcases qzq.1 hr with hr|hr
   .obtain ⟨t,t1,t2,t3,e⟩:=i1 r hr;exact⟨t,t1,t2,oM,e⟩
   .obtain ⟨t,t1,t2,t3,e⟩:=hnew r hr;exact⟨t,t1,t2,oM,e⟩
  .rw [List.pairwise_append];refine⟨i2,?_,fun x hx y hy e=>?_⟩
   .unfold scL;split
    .exact List.pairwise_singleton _ _
    .exact List.Pairwise.nil
   .obtain ⟨t,t1,t2,t3,rfl⟩:=i1 x hx;obtain⟨t',p1,p2,p3,rfl⟩:=hnew y hy;rw[(h.recN t1 oM).2.1,(h.recN p1 oM).2.1]at e;subst e;omega
  .rw [qzq];by_cases hlt:(t-1)%n.jo<k
   .exact .inl (i3 t t1 t2 hlt)
   .right
    have hk2:(t-1)%n.jo=k:=oM;have hw:=h.jw t t1 t2;rw[hk2]at hw;rw[hw];unfold scL;have:=(h.recN (t:=t) (by have:=h.f1;omega) (by have:=h.c3;omega)).2.2;rw[hk2]at this;rw[if_pos this];exact qzy.2 rfl
theorem Uo{L:List (List Nat)}(hs:L.Pairwise (fun x y=>rseq x<rseq y))(s0:Nat):∀k,k<=L.length->
  (repS (L.take k) s0).l=s0+(repS (L.take k) s0).d.length/\(∀i (hi:i<(repS (L.take k) s0).d.length),rseq (repS (L.take k) s0).d[i]=s0+1+i/\(repS (L.take k) s0).d[i]∈L)/\
   (∀r∈L.take k,rseq r<=(repS (L.take k) s0).l\/(repS (L.take k) s0).l+1<rseq r)/\(∀r∈L.take k,rseq r<=(repS (L.take k) s0).g)/\s0<=(repS (L.take k) s0).g/\(repS (L.take k) s0).l<=(repS (L.take k) s0).g/\((repS (L.take k) s0).g=s0\/∃r∈L,rseq r=(repS (L.take k) s0).g)
 |0,_=>by
  rw[List.take_zero];exact⟨rfl,fun i hi=>absurd hi (Nat.not_lt_zero _),fun r hr=>(by cases hr),fun r hr=>(by cases hr),qXv _,qXv _,.inl rfl⟩
 |k+1,hk=>by
  obtain⟨h1,h2,h3,h4,h5,h6,h7⟩:=Uo hs s0 k oM;have hk':k<L.length:=oM;rw[tr L s0 hk'];have hlt:∀r∈L.take k,rseq r<rseq L[k]:=fun r hr=>by
   obtain⟨i,hi,rfl⟩:=qza hr;rw[qzk]at hi;rw[List.getElem_take];exact qXe.1 hs i k oM hk' oM
  have hmem:∀{r},r∈L.take (k+1)->r∈L.take k\/r=L[k]:=fun{r} hr=>by
   rw[qXq hk',qzq,qzy]at hr;exact hr
  obtain⟨s,hsd⟩:=qqe (repS (L.take k) s0);rw[<-hsd]at h1 h2 h3 h4 h5 h6 h7⊢;have hg:∀s':RepS,s'.g=max s.g (rseq L[k])->(∀r∈L.take (k+1),rseq r<=s'.g)/\s0<=s'.g/\(s'.g=s0\/∃r∈L,rseq r=s'.g):=fun s' e=>by
   refine⟨fun r hr=>?_,by rw[e];omega,?_⟩
   .rcases hmem hr with hr|rfl
    .have:=h4 r hr;rw[e];omega
    .rw [e];omega
   .rcases Nat.le_total s.g (rseq L[k])with hle|hle
    .exact .inr ⟨L[k],qyz hk',by rw[e];omega⟩
    .rw [e,Nat.max_eq_left hle];exact h7
  unfold repStep;split
  .next he=>
   obtain⟨g1,g2,g3⟩:=hg ⟨s.d++[L[k]],max s.g (rseq L[k]),rseq L[k]⟩ rfl;refine⟨by show rseq L[k]=s0+(s.d++[L[k]]).length;rw[qzd];simp;omega,fun i hi=>?_,fun r hr=>?_,g1,g2,by show rseq L[k]<=max _ _;omega,g3⟩
   .show rseq (s.d++[L[k]])[i]=_/\(s.d++[L[k]])[i]∈L;have hi:i<(s.d++[L[k]]).length:=hi;rw[qzd]at hi;by_cases hid:i<s.d.length
    .rw [List.getElem_append_left hid];exact h2 i hid
    .have:i=s.d.length:=by simp at hi;omega
     subst this;rw[List.getElem_append_right (qXv _)];simp only[Nat.sub_self,qyx];exact⟨oM,qyz hk'⟩
   .show rseq r<=rseq L[k]\/rseq L[k]+1<rseq r;rcases hmem hr with hr|rfl
    .exact .inl (by have:=hlt r hr;omega)
    .exact .inl (qXv _)
  .next he=>
   obtain⟨g1,g2,g3⟩:=hg ⟨s.d,max s.g (rseq L[k]),s.l⟩ rfl;refine⟨h1,h2,fun r hr=>?_,g1,g2,by show s.l<=max _ _;omega,g3⟩;show rseq r<=s.l\/s.l+1<rseq r;rcases hmem hr with hr|rfl
   .exact h3 r hr
   .omega
end
theorem Sy(bl sl jo:Nat)(h1:1<=bl)(h2:bl<=12)(h3:1<=sl)(h4:sl<=8)(h5:4<=jo)(h6:jo<=12):(smN bl sl jo).Ok:=by
 have hp:(sl-1)/4<=1:=oM;constructor<;>simp only[smN,CaN.size]<;>omega
theorem Did.below{own own':Nat->Nat}{w0 w w':World}(h:Did own own' w w')(hb:Below w0.heap.size w0 w)(ho:∀j,j<w0.heap.size->own j=0):Below w0.heap.size w0 w':=
 zk hb h.upd (qXv _) (fun k hk=>Nat.le_of_not_lt fun hlt=>hk.1 (ho k hlt))
open Go Go.RowKit Go.Shelf Tryz
attribute [local go_sem] qYh
end
section
def yZ(F:List Bk)(O:List (Nat×Bk))(l:List Bool):List Bk:=(l.zip O).foldl (fun F p=>if p.1=true then F.set p.2.1 p.2.2 else F) F
theorem Sz{α:Type}{l:List Bool}{O:List α}{k:Nat}(hk:k<l.length)(hO:l.length<=O.length):(l.take (k+1)).zip O=(l.take k).zip O++[(l[k],O[k]'oM)]:=by
 induction l generalizing O k with
 |nil=>simp at hk
 |cons a l ih=>
  cases O with
  |nil=>simp at hO
  |cons o O=>
   cases k with
   |zero=>simp
   |succ k=>
    have:=ih (O:=O) (k:=k) (by simpa using hk) (by simpa using hO);simp only[List.take_succ_cons,List.zip_cons_cons,qya,qyw];rw[this]
theorem XP{F:List Bk}{O:List (Nat×Bk)}{l:List Bool}{k:Nat}(hk:k<l.length)(hO:l.length<=O.length):
  yZ F O (l.take (k+1))=if l[k]=true then(yZ F O (l.take k)).set (O[k]'oM).1 (O[k]'oM).2 else yZ F O (l.take k):=by
 unfold yZ;rw[Sz hk hO,List.foldl_append];rfl
theorem xe(F:List Bk)(O:List (Nat×Bk))(l:List Bool):(yZ F O l).length=F.length:=by
 unfold yZ
 induction l.zip O generalizing F with
 |nil=>rfl
 |cons p L ih=>
  simp only[List.foldl_cons];rw[ih];split<;>simp
abbrev Ak(l:List Bool):List Value:=l.map Value.bool
theorem DvGood.crashed{F:List Bk}{O:List (Nat×Bk)}{P:List Int}(h:DvGood F O P):DvGood F [] []:={h with o64:=oe,ol:=oe,pl:=by simp}
theorem SA{S:Nat->Prop}{w:World}{b:Nat}{F:List Bk}{O:List (Nat×Bk)}{P:List Int}(h:Dv S w b F O P){vk:Value}{l:List Bool}(hk:Rd w 1 vk l.length (Ak l))(hlO:l.length<=O.length):
  Calls prog 110 #[.pointer (some ⟨b,0,none⟩),vk] w fun e w'=>∃b2,e=.returned (.tuple #[.pointer (some ⟨b2,0,none⟩),.int .i64 0])/\Dv (fun j=>w.heap.size<=j) w' b2 (yZ F O l) [] []/\Below w.heap.size w w':=by
 obtain⟨vf,vo,vp,h,-⟩:=h;obtain⟨c0,c1,-⟩:=h.c;obtain⟨ao,co,rfl⟩:=h.os.rd.j7;obtain⟨ak,ck,rfl⟩:=hk.j7;have hol:=h.good.ol;have hlb:b<w.heap.size:=zf h.str;have HCl:=qqh (tX h.fs.rd (by have:=h.good.fl;omega) (Zi F));have H:=Y2 h hk;have hlO':(l.length:Int)<=(O.length:Int):=oM;clear h hk;go_enter func110,ntmps110
 go_wp2_with fail
 refine HCl.out.mono ?_;rintro e w1 ⟨v1,rfl,s1,f1,b1⟩;obtain⟨a1,k1,rfl⟩:=s1.rd.j7;have hu1:=uuo (S:=fun _=>False) b1;have HB1:=Y3 s1 f1 b1;clear s1 f1 b1 c0;obtain⟨w2,hw2⟩:=qqe (w1.alloc (.cells #[(.slice a1 F.length k1),.slice none 0 0,.slice none 0 0] 123));have HW2:=qqh hw2;have hD2:DvAt w2 w1.heap.size (.slice a1 F.length k1) (.slice none 0 0) (.slice none 0 0) F [] []:=by
  have hA:Upd (fun _=>False) w1 w2:=by rw[hw2];exact(uur _ _).alloc _
  obtain⟨s1,f1,b1⟩:=HB1.o;exact⟨by rw[hw2];exact zc _ _ rfl,s1.keep hA (fun _ _ h=>h),Sl.nil _ _ _,Sl.nil _ _ _,H.o.1.good.crashed,fun e=>by have:=s1.lt e;omega,(by simp[Value.ownBlock]),(by simp[Value.ownBlock]),(Dis.nil _ _ _).symm,(Dis.nil _ _ _).symm,Dis.nil _ _ _⟩
 have hU2:Upd (fun _=>False) w w2:=by rw[hw2];exact hu1.alloc _
 have H2:=Y2 hD2 hU2;clear hu1 hD2 hU2 hw2;go_wp2
 rw[<-HW2.o];go_loopw[28] (fun i wr=>∃k:Nat,k<=l.length/\i=.int .i64 k/\DvAt wr w1.heap.size (.slice a1 F.length k1) (.slice none 0 0) (.slice none 0 0) (yZ F O (l.take k)) [] []/\Upd (fun j=>(Value.slice a1 F.length k1).ownBlock=some j) w2 wr)
  (fun i _=>l.length-(intOf i).toNat)
 case atStart=>exact⟨0,qYf _,rfl,H2.o.1,uur _ _⟩
 case round=>
  obtain⟨k,hk,rfl,hd,hu⟩:=hrel;have hfs:∀j,(Value.slice a1 F.length k1).ownBlock=some j->w.heap.size<=j:=fun j hj=>HB1.o.2.1 j hj;have hUw:Upd (fun j=>w.heap.size<=j) w wr:=(H2.o.2.mono fE).trans (hu.mono (fun j _ hj=>hfs j hj));have hBw:Below w.heap.size w wr:=Upd.below ((uur (fun _=>False) w).new hUw (fun i hi hs=>oM));by_cases hlt:k<l.length
  .have hkr:=H.o.2.below hBw;obtain⟨blk,ofk,cpk,e1,-,hck⟩:=hkr.at oM;cases e1;have hb:=hck k (.bool l[k]) (by rw[qyq,qyn hlt];rfl);have hsn:=XP (F:=F) hlt hlO;obtain⟨t,ht⟩:=qqe (l[k]);rw[<-ht]at hb hsn;have HT:=qqh hsn;clear hck hsn hkr ht;cases t with
   |false=>
    have HS:=Y2 hd hu;clear hd hu hUw hfs hBw;go_wp2
    go_roundw
    case rel=>exact⟨k+1,oM,by go_num,by rw[HT.o];exact HS.o.1,HS.o.2⟩
    case measure=>simp[intOf];omega
   |true=>
    have hkO:k<O.length:=oM;have h0:=H.o.1;obtain⟨gO,oO,cO,e1,hgO,hcO,rO⟩:=h0.opRange hkO;obtain⟨rfl,rfl⟩:ao=some ⟨gO,oO,none⟩/\co=cO:=by injection e1 with e1 _ e2;exact⟨e1,e2⟩
    clear e1;have hsx:=h0.good.o64 O[k] (qyz hkO);obtain⟨s,x,hO⟩:∃s x,O[k]=(s,x):=⟨_,_,rfl⟩
    rw[hO]at hsx rO HT;obtain⟨hx,hs⟩:=hsx;obtain⟨gF,oF,cF,e1,hgF,hcF,rF,tF⟩:=hd.kL (show s<(yZ F O (l.take k)).length by rw[xe];exact hs);have hrw:=hBw.size;have q1:=hUw.j4 c1 oM;have q2:=(uuo (S:=fun _=>False) hBw).range rO id;have q3:wr.rangeAt gO (oO+k*65+1) (bkC x):=fun j v hv=>by
     have:=q2 (1+j) v jv;rw[<-this];congr 2;omega
    have q4:wr.cell? ⟨gO,oO+k*65,none⟩=some (.int .i64 (s:Int)):=q2 0 _ rfl;obtain⟨q5,-,-⟩:=hd.c;have hGF:¬gO=gF:=fun e=>by have:=hfs gF (by rw[e1]at*;simp[Value.ownBlock]);omega
    have hBF:¬b=gF:=fun e=>by have:=hfs gF (by rw[e1]at*;simp[Value.ownBlock]);omega
    have h1F:¬w1.heap.size=gF:=fun e=>by have:=HB1.o.1.lt (g:=gF) (by rw[e1];simp[Value.ownBlock]);omega
    have HD:=Y2 hd hu;have hE1:=qqh e1;have hut:=underlying54;have hsi:=zw x hx;have hlx:(bkC x).length=64:=by rw[zo,hx]
    have h1x:=zx x;rw[xe]at e1;cases e1;have hs1:0<=(s:Int):=oM;have hs2:(s:Int)<F.length:=oM;have hk1:(k:Int)<O.length:=oM;obtain⟨m,hm⟩:=qqe (w1.heap.size);rw[<-hm]at q5 h1F⊢;have HM:=qqh hm;clear hd hu hUw hfs hBw rO q2 tF rF h0 hgO hgF hm hcF hcO;have q6:=(HD.o.1.kL (show s<(yZ F O (l.take k)).length by rw[xe];exact hs))
    obtain⟨gF',oF',cF',e2,-,-,-,q7⟩:=q6;have e3:=hE1.out.symm.trans e2;cases e3;clear e2;go_upto_region 10 with fail
    clear hb
    go_region_held3 (fun W=>W.cell? ⟨m,0,none⟩=some (.slice (some ⟨gF,oF,none⟩) F.length k1)/\W.cell? ⟨b,1,none⟩=some (.slice (some ⟨gO,oO,none⟩) O.length co)/\W.cell? ⟨gO,oO+k*65,none⟩=some (.int .i64 (s:Int))/\W.rangeAt gO (oO+k*65+1) (bkC x)/\W.there gF (oF+s*64) 64)
     ((go_split_ands;(simp only[qYq,World.there_drew,qYo]at*);((repeat' constructor)<;>first|assumption|(apply World.there_setCells;assumption)|(refine zO ?_ ?_<;>assumption)|(refine World.rangeAt_setCells_apart (by assumption) _ _ _ oM))))
     (fail)
    rename_i hHeld
    clear hHeld q1 q3 q4 q5 q7;have hset:DvAt (wr.drew.setCells gF (oF+s*64) (bkC x)) w1.heap.size (.slice (some ⟨gF,oF,none⟩) F.length k1) (.slice none 0 0) (.slice none 0 0) (yZ F O (l.take (k+1))) [] []:=by
     have h2:=HD.o.1.new ((uur (fun _=>False) _).drew);rw[<-xe F O (l.take k)]at h2;have:=h2.setFirm (s:=s) (x:=x) (by rw[xe];exact hs) hx;rw[xe]at this;rw[HT.o,if_pos rfl];exact this
    have hUs:Upd (fun j=>(Value.slice (some ⟨gF,oF,none⟩) F.length k1).ownBlock=some j) w2 (wr.drew.setCells gF (oF+s*64) (bkC x)):=
     HD.o.2.drew.trans ((zq wr.drew gF (oF+s*64) (bkC x)).mono (fun j _ e=>by simp[Value.ownBlock,e]))
    have HS:=Y2 hset hUs;clear hset hUs;go_wp2
    go_roundw
    case rel=>exact⟨k+1,oM,by go_num,by rw[HM.o];exact HS.o.1,HS.o.2⟩
    case measure=>simp[intOf];omega
  .obtain rfl:k=l.length:=oM;rw[List.take_length]at hd;have HE:=Y2 hd hBw;clear hd hUw hu hfs hBw;go_wp2
   go_ret2
   obtain⟨hd,hBw⟩:=HE.o;have hz1:=HB1.o.2.2.size;refine⟨w1.heap.size,rfl,⟨_,_,_,hd,?_⟩,hBw⟩;rintro j (rfl|hj|hj|hj)
   .exact hz1
   .exact HB1.o.2.1 j hj
   .cases hj
   .cases hj
theorem rZ(F:List Bk)(O:List (Nat×Bk)):yZ F O []=F:=by simp[yZ]
theorem XQ{S T:Nat->Prop}{w:World}{ssd back:Nat}{F G:List Bk}{O Q:List (Nat×Bk)}{P P':List Int}(hs:Dv S w ssd F O P)(hb:Dv T w back G Q P'):
  Calls prog 42 #[ptr ssd,ptr back,.slice none 0 0] w fun e w'=>∃x y m,e=.returned (.tuple #[ptr x,ptr y])/\w.heap.size<=m/\m<=w'.heap.size/\Dv (fun j=>w.heap.size<=j/\j<m) w' x F [] []/\Dv (fun j=>m<=j) w' y G [] []/\Below w.heap.size w w':=by
 have H:=Y2 hs hb;have nl:∀W,Rd W 1 (.slice none 0 0) ([]:List Bool).length (Ak []):=fun W=>(Sl.nil W 0 1).rd;have HC:=qqh (SA hs (nl w) (qYf _));clear hs hb;go_enter func42,ntmps42
 go_wp2_with fail
 refine(EU H.o.1).mono ?_;rintro e w1 ⟨rfl,rfl⟩;go_wp2_with fail
 refine HC.o.mono ?_;rintro e w2 ⟨x,rfl,hx,hb2⟩;rw[rZ]at hx;have hu2:=qqb hb2;have hk2:=H.o.2.new hu2;have HC2:=qqh (SA hk2 (nl w2) (qYf _));have H2:=Y3 hx hb2 hk2;clear hx hb2 hu2 hk2;go_wp2_with fail
 refine(EU H2.o.2.2).mono ?_;rintro e w3 ⟨rfl,rfl⟩;go_wp2_with fail
 refine HC2.o.mono ?_;rintro e w4 ⟨y,rfl,hy,hb4⟩;rw[rZ]at hy;have H4:=Y2 hy hb4;clear hy hb4;go_wp2_with fail
 go_ret2
 obtain⟨hx,hb2,-⟩:=H2.o;obtain⟨hy,hb4⟩:=H4.o;exact⟨x,y,_,rfl,hb2.size,hb4.size,(hx.out (fun j hj h=>⟨h,hj⟩)).new (uuo hb4),hy,hb2.trans (hb4.mono hb2.size)⟩
theorem EE(x y:Option Addr)(c d:Nat)(w:World):Calls prog 116 #[.slice x 0 c,.slice y 0 d] w fun e w'=>e=.returned (.bool true)/\w'=w:=by
 go_enter func116,ntmps116
 go_wp2
 go_loopg[13] 0 (fun _ s13 wr=>s13=.int .i64 0/\wr=w)
 case atStart=>exact⟨rfl,rfl⟩
 case round=>
  obtain⟨rfl,rfl⟩:=hrel;go_wp2
  go_ret
  exact⟨rfl,rfl⟩
theorem XR{S T:Nat->Prop}{w:World}{a b:Nat}{F:List Bk}(ha:Dv S w a F [] [])(hb:Dv T w b F [] []):
  Calls prog 48 #[.pointer (some ⟨a,0,none⟩),.pointer (some ⟨b,0,none⟩)] w fun e w'=>e=.returned (.bool true)/\Below w.heap.size w w':=by
 obtain⟨vf,vo,vp,ha,-⟩:=ha;obtain⟨uf,uo,up,hb,-⟩:=hb;obtain⟨a0,a1,a2⟩:=ha.c;obtain⟨b0,b1,b2⟩:=hb.c;obtain⟨x0,y0,rfl⟩:=ha.fs.rd.j7;obtain⟨x1,y1,rfl⟩:=ha.os.rd.j7;obtain⟨x2,y2,rfl⟩:=ha.ps.rd.j7;obtain⟨z0,q0,rfl⟩:=hb.fs.rd.j7;obtain⟨z1,q1,rfl⟩:=hb.os.rd.j7;obtain⟨z2,q2,rfl⟩:=hb.ps.rd.j7;have hfl:=ha.good.fl;have H:=Y2 ha hb;clear ha hb;go_enter func48,ntmps48
 go_wp2_with fail
 refine qZj (S:=fun W=>W.cell? ⟨a,0,none⟩=some (.slice x0 F.length y0)/\W.cell? ⟨a,1,none⟩=some (.slice x1 0 y1)/\W.cell? ⟨a,2,none⟩=some (.slice x2 0 y2)/\W.cell? ⟨b,0,none⟩=some (.slice z0 F.length q0)/\W.cell? ⟨b,1,none⟩=some (.slice z1 0 q1)/\W.cell? ⟨b,2,none⟩=some (.slice z2 0 q2)) kR (by simp only[qYo];exact⟨a0,a1,a2,b0,b1,b2⟩) (fun hHeld=>?_);refine Wl.i [0,1,2,3,4,5,6,7,8,9,10,11,12,13,14,15,16,17,18,19,20,21,22,23,24,25,26,27,28,29,30,31,32] ?_;iterate 33 refine Wl.t hHeld ?_
 refine Wl.o ?_;refine Wl.r 33 (fun K hK=>?_);go_simp
 refine(EE _ _ _ _ _).mono ?_;rintro e w5 ⟨rfl,hw5⟩;rw[hw5];refine hK.o _ _ hHeld (fun _=>?_);clear hK K hw5;refine Wl.i [34,35] ?_;iterate 2 refine Wl.t hHeld ?_
 refine Wl.o ?_;refine Wl.d ?_;have hud:Below w.heap.size w w.drew:=Upd.below ((uur (fun _=>False) w).drew);have HD:=qqh hud;obtain⟨a0,a1,a2,b0,b1,b2⟩:=hHeld;clear hud;go_wp2_with fail
 go_loopg[62] F.length (fun gk s62 wr=>∃i:Nat,i+gk=F.length/\s62=.int .i64 i/\Below w.heap.size w wr)
 case atStart=>exact⟨0,oM,rfl,HD.o⟩
 case round=>
  obtain⟨i,hi,rfl,hbl⟩:=hrel;obtain⟨ha,hb⟩:=H.o;have hu:=qqb hbl;have da:=ha.new hu;have db:=hb.new hu;by_cases hlt:i<F.length
  .have hx:F[i].length=64:=ha.good.f64 _ (qyz hlt);obtain⟨gA,oA,cA,eA,-,-,rA,-⟩:=da.kL hlt;obtain⟨gB,oB,cB,eB,-,-,rB,-⟩:=db.kL hlt;cases eA;cases eB;have cb:=db.c.1;generalize F[i]=y at*;have hk:0<=(i:Int)/\(i:Int)<F.length:=oM;have hsi:=zw y hx;have hut:=underlying54;obtain⟨w6,hw6⟩:=qqe (wr.alloc (.cells (bkC y).toArray 54));have hu6:=qqu hw6;have r6:w6.rangeAt wr.heap.size 0 (bkC y):=by rw[hw6];exact zh (zc wr _ rfl)
   have rB6:=hu6.range rB id;have cb6:=hu6.j4 cb id;have hb6:Below w.heap.size w w6.drew:=hbl.trans ((Upd.below (hu6.drew)).mono hbl.size);have heq:∀W:World,(binOp .neq 54 (.agg (bkC y).toArray) (.agg (bkC y).toArray)).run prog W=.ok (.bool false) W:=by
    intro W;rw[run_neq_bk _ _ hx hx];simp
   have HW:=Y2 hw6 hb6;clear ha hb hu da db hu6 hb6 hw6 hbl a0 a1 a2 b0 b1 b2 cb;obtain⟨hk1,hk2⟩:=hk;go_wp2_with (first
    |(refine qZg rfl _ _ rfl _ _ rfl _ _ rA hut rfl hsi ?_)
    |(refine zl rfl _ _ _ rfl _ _ (bkC y) rfl rfl (by rw[zo,hx];rfl) hsi (zx y) ?_)
    |fail)
   rw[<-HW.o.1];refine qZj (S:=fun W=>W.rangeAt wr.heap.size 0 (bkC y)/\W.cell? ⟨b,0,none⟩=some (.slice (some ⟨gB,oB,none⟩) F.length q0)/\W.rangeAt gB (oB+i*64) (bkC y)) kR (⟨by rw[qYq];exact r6,by rw[qYo];exact cb6,by rw[qYq];exact rB6⟩) (fun hHeld=>?_);refine Wl.l 0 (fun w h=>h.1) hut hsi hHeld ?_;refine Wl.i [1,2,3,4,5,6] ?_;iterate 6 refine Wl.t hHeld ?_
   refine Wl.o ?_;refine Wl.l 7 (fun w h=>h.2.2) hut hsi hHeld ?_;refine Wl.i [8] ?_;refine Wl.t hHeld ?_;refine Wl.o ?_;refine Wl.d ?_;clear hHeld heq;go_wp2_with fail
   go_roundg (gk-1)
   case measure=>omega
   case rel=>exact⟨i+1,oM,by go_num,HW.o.2⟩
  .obtain rfl:i=F.length:=oM;have c1:=da.c.2.1;have HB:=qqh hbl;clear ha hb hu da db hbl a0 a1 a2 b0 b1 b2;go_wp2_with fail
   go_loopg[82] 0 (fun _ s82 wr=>s82=.int .i64 0/\Below w.heap.size w wr)
   case atStart=>exact⟨rfl,HB.o⟩
   case round=>
    obtain⟨rfl,hbl⟩:=hrel;have HC:=qqh hbl;clear hbl;go_wp2_with fail
    go_ret
    exact⟨rfl,HC.o⟩
end
end Go.Proofs.YtfhfbpmlnjdfoaaGreatDoor
