/- A device's Cra -/
import Derived.Test.YtfhfbpmlnjdfoaaGreatDoorG35
import Derived.Test.YtfhfbpmlnjdfoaaGreatDoorG26
set_option maxRecDepth 100000
set_option maxHeartbeats 2000000
namespace Go.Proofs.YtfhfbpmlnjdfoaaGreatDoor
open Go Go.RowKit Tryz
def yU(F:List Bk)(O:List (Nat×Bk))(l:List Bool):List Bk:=(l.zip O).foldl (fun F p=>if p.1=true then F.set p.2.1 p.2.2 else F) F
theorem Sn{α:Type}{l:List Bool}{O:List α}{k:Nat}(hk:k<l.length)(hO:l.length<=O.length):(l.take (k+1)).zip O=(l.take k).zip O++[(l[k],O[k]'(by omega))]:=by
 induction l generalizing O k with
 |nil=>simp at hk
 |cons a l ih=>
  cases O with
  |nil=>simp at hO
  |cons o O=>
   cases k with
   |zero=>simp
   |succ k=>
    have:=ih (O:=O) (k:=k) (by simpa using hk) (by simpa using hO);simp only[List.take_succ_cons,List.zip_cons_cons,qya,qyw];rw[this]
theorem XE{F:List Bk}{O:List (Nat×Bk)}{l:List Bool}{k:Nat}(hk:k<l.length)(hO:l.length<=O.length):
  yU F O (l.take (k+1))=if l[k]=true then(yU F O (l.take k)).set (O[k]'(by omega)).1 (O[k]'(by omega)).2 else yU F O (l.take k):=by
 unfold yU;rw[Sn hk hO,List.foldl_append];rfl
theorem yV(F:List Bk)(O:List (Nat×Bk))(l:List Bool):(yU F O l).length=F.length:=by
 unfold yU
 induction l.zip O generalizing F with
 |nil=>rfl
 |cons p L ih=>
  simp only[List.foldl_cons];rw[ih];split<;>simp
abbrev EO(l:List Bool):List Value:=l.map Value.bool
theorem DvGood.crashed{F:List Bk}{O:List (Nat×Bk)}{P:List Int}(h:DvGood F O P):DvGood F [] []:={h with o64:=by simp,ol:=by simp,pl:=by simp}
theorem So{S:Nat->Prop}{w:World}{b:Nat}{F:List Bk}{O:List (Nat×Bk)}{P:List Int}(h:Dv S w b F O P){vk:Value}{l:List Bool}(hk:Rd w 1 vk l.length (EO l))(hlO:l.length<=O.length):
  Calls prog 110 #[.pointer (some ⟨b,0,none⟩),vk] w fun e w'=>∃b2,e=.returned (.tuple #[.pointer (some ⟨b2,0,none⟩),.int .i64 0])/\Dv (fun j=>w.heap.size<=j) w' b2 (yU F O l) [] []/\Below w.heap.size w w':=by
 obtain⟨vf,vo,vp,h,-⟩:=h;obtain⟨c0,c1,-⟩:=h.c;obtain⟨ao,co,rfl⟩:=h.os.rd.jd;obtain⟨ak,ck,rfl⟩:=hk.jd;have hol:=h.good.ol;have hlb:b<w.heap.size:=zf h.str;have HCl:=qqh (tO h.fs.rd (by have:=h.good.fl;omega) (Zc F));have H:=Y2 h hk;have hlO':(l.length:Int)<=(O.length:Int):=by omega
 clear h hk;go_enter func110,ntmps110
 go_wp2_with fail
 refine HCl.out.mono ?_;rintro e w1 ⟨v1,rfl,s1,f1,b1⟩;obtain⟨a1,k1,rfl⟩:=s1.rd.jd;have hu1:=uuo (S:=fun _=>False) b1;have HB1:=Y3 s1 f1 b1;clear s1 f1 b1 c0;obtain⟨w2,hw2⟩:=qqe (w1.alloc (.cells #[(.slice a1 F.length k1),.slice none 0 0,.slice none 0 0] 123));have HW2:=qqh hw2;have hD2:DvAt w2 w1.heap.size (.slice a1 F.length k1) (.slice none 0 0) (.slice none 0 0) F [] []:=by
  have hA:Upd (fun _=>False) w1 w2:=by rw[hw2];exact(uur _ _).alloc _
  obtain⟨s1,f1,b1⟩:=HB1.o;exact⟨by rw[hw2];exact zc _ _ rfl,s1.keep hA (fun _ _ h=>h),Sl.nil _ _ _,Sl.nil _ _ _,H.o.1.good.crashed,fun e=>by have:=s1.lt e;omega,(by simp[Value.ownBlock]),(by simp[Value.ownBlock]),(Dis.nil _ _ _).symm,(Dis.nil _ _ _).symm,Dis.nil _ _ _⟩
 have hU2:Upd (fun _=>False) w w2:=by rw[hw2];exact hu1.alloc _
 have H2:=Y2 hD2 hU2;clear hu1 hD2 hU2 hw2;go_wp2
 rw[<-HW2.o];go_loopw[28] (fun i wr=>∃k:Nat,k<=l.length/\i=.int .i64 k/\DvAt wr w1.heap.size (.slice a1 F.length k1) (.slice none 0 0) (.slice none 0 0) (yU F O (l.take k)) [] []/\Upd (fun j=>(Value.slice a1 F.length k1).ownBlock=some j) w2 wr)
  (fun i _=>l.length-(intOf i).toNat)
 case atStart=>exact⟨0,qYf _,rfl,H2.o.1,uur _ _⟩
 case round=>
  obtain⟨k,hk,rfl,hd,hu⟩:=hrel;have hfs:∀j,(Value.slice a1 F.length k1).ownBlock=some j->w.heap.size<=j:=fun j hj=>HB1.o.2.1 j hj;have hUw:Upd (fun j=>w.heap.size<=j) w wr:=(H2.o.2.mono (fun _ _ h=>h.elim)).trans (hu.mono (fun j _ hj=>hfs j hj));have hBw:Below w.heap.size w wr:=Upd.below ((uur (fun _=>False) w).new hUw (fun i hi hs=>by omega));by_cases hlt:k<l.length
  .have hkr:=H.o.2.below hBw;obtain⟨blk,ofk,cpk,e1,-,hck⟩:=hkr.at (by omega);cases e1;have hb:=hck k (.bool l[k]) (by rw[qyq,qyn hlt];rfl);have hsn:=XE (F:=F) hlt hlO;obtain⟨t,ht⟩:=qqe (l[k]);rw[<-ht]at hb hsn;have HT:=qqh hsn;clear hck hsn hkr ht;cases t with
   |false=>
    have HS:=Y2 hd hu;clear hd hu hUw hfs hBw;go_wp2
    go_roundw
    case rel=>exact⟨k+1,by omega,by go_num,by rw[HT.o];exact HS.o.1,HS.o.2⟩
    case measure=>simp[intOf];omega
   |true=>
    have hkO:k<O.length:=by omega
    have h0:=H.o.1;obtain⟨gO,oO,cO,e1,hgO,hcO,rO⟩:=h0.opRange hkO;obtain⟨rfl,rfl⟩:ao=some ⟨gO,oO,none⟩/\co=cO:=by injection e1 with e1 _ e2;exact⟨e1,e2⟩
    clear e1;have hsx:=h0.good.o64 O[k] (qyz hkO);obtain⟨s,x,hO⟩:∃s x,O[k]=(s,x):=⟨_,_,rfl⟩
    rw[hO]at hsx rO HT;obtain⟨hx,hs⟩:=hsx;obtain⟨gF,oF,cF,e1,hgF,hcF,rF,tF⟩:=hd.jJ (show s<(yU F O (l.take k)).length by rw[yV];exact hs);have hrw:=hBw.size;have q1:=hUw.ja c1 (by omega);have q2:=(uuo (S:=fun _=>False) hBw).range rO (fun h=>h);have q3:wr.rangeAt gO (oO+k*65+1) (bkC x):=fun j v hv=>by
     have:=q2 (1+j) v (by rw[Nat.add_comm];exact hv);rw[<-this];congr 2;omega
    have q4:wr.cell? ⟨gO,oO+k*65,none⟩=some (.int .i64 (s:Int)):=q2 0 _ rfl;obtain⟨q5,-,-⟩:=hd.c;have hGF:¬gO=gF:=fun e=>by have:=hfs gF (by rw[e1]at*;simp[Value.ownBlock]);omega
    have hBF:¬b=gF:=fun e=>by have:=hfs gF (by rw[e1]at*;simp[Value.ownBlock]);omega
    have h1F:¬w1.heap.size=gF:=fun e=>by have:=HB1.o.1.lt (g:=gF) (by rw[e1];simp[Value.ownBlock]);omega
    have HD:=Y2 hd hu;have hE1:=qqh e1;have hut:=underlying54;have hsi:=zw x hx;have hlx:(bkC x).length=64:=by rw[zn,hx]
    have h1x:=zv x;rw[yV]at e1;cases e1;have hs1:0<=(s:Int):=by omega
    have hs2:(s:Int)<F.length:=by omega
    have hk1:(k:Int)<O.length:=by omega
    obtain⟨m,hm⟩:=qqe (w1.heap.size);rw[<-hm]at q5 h1F⊢;have HM:=qqh hm;clear hd hu hUw hfs hBw rO q2 tF rF h0 hgO hgF hm hcF hcO;have q6:=(HD.o.1.jJ (show s<(yU F O (l.take k)).length by rw[yV];exact hs))
    obtain⟨gF',oF',cF',e2,-,-,-,q7⟩:=q6;have e3:=hE1.out.symm.trans e2;cases e3;clear e2;go_upto_region 10 with fail
    clear hb
    go_region_held3 (fun W=>W.cell? ⟨m,0,none⟩=some (.slice (some ⟨gF,oF,none⟩) F.length k1)/\W.cell? ⟨b,1,none⟩=some (.slice (some ⟨gO,oO,none⟩) O.length co)/\W.cell? ⟨gO,oO+k*65,none⟩=some (.int .i64 (s:Int))/\W.rangeAt gO (oO+k*65+1) (bkC x)/\W.there gF (oF+s*64) 64)
     ((go_split_ands;(simp only[qYq,World.there_drew,qYo]at*);((repeat' constructor)<;>first|assumption|(apply World.there_setCells;assumption)|(refine zX ?_ ?_<;>assumption)|(refine World.rangeAt_setCells_apart (by assumption) _ _ _ (by omega)))))
     (fail)
    rename_i hHeld
    clear hHeld q1 q3 q4 q5 q7;have hset:DvAt (wr.drew.setCells gF (oF+s*64) (bkC x)) w1.heap.size (.slice (some ⟨gF,oF,none⟩) F.length k1) (.slice none 0 0) (.slice none 0 0) (yU F O (l.take (k+1))) [] []:=by
     have h2:=HD.o.1.new ((uur (fun _=>False) _).drew);rw[<-yV F O (l.take k)]at h2;have:=h2.setFirm (s:=s) (x:=x) (by rw[yV];exact hs) hx;rw[yV]at this;rw[HT.o,if_pos rfl];exact this
    have hUs:Upd (fun j=>(Value.slice (some ⟨gF,oF,none⟩) F.length k1).ownBlock=some j) w2 (wr.drew.setCells gF (oF+s*64) (bkC x)):=
     HD.o.2.drew.trans ((zq wr.drew gF (oF+s*64) (bkC x)).mono (fun j _ e=>by simp[Value.ownBlock,e]))
    have HS:=Y2 hset hUs;clear hset hUs;go_wp2
    go_roundw
    case rel=>exact⟨k+1,by omega,by go_num,by rw[HM.o];exact HS.o.1,HS.o.2⟩
    case measure=>simp[intOf];omega
  .obtain rfl:k=l.length:=by omega
   rw[List.take_length]at hd;have HE:=Y2 hd hBw;clear hd hUw hu hfs hBw;go_wp2
   go_ret2
   obtain⟨hd,hBw⟩:=HE.o;have hz1:=HB1.o.2.2.size;refine⟨w1.heap.size,rfl,⟨_,_,_,hd,?_⟩,hBw⟩;rintro j (rfl|hj|hj|hj)
   .exact hz1
   .exact HB1.o.2.1 j hj
   .cases hj
   .cases hj
theorem rK(F:List Bk)(O:List (Nat×Bk)):yU F O []=F:=by simp[yU]
theorem XF{S T:Nat->Prop}{w:World}{ssd back:Nat}{F G:List Bk}{O Q:List (Nat×Bk)}{P P':List Int}(hs:Dv S w ssd F O P)(hb:Dv T w back G Q P'):
  Calls prog 42 #[ptr ssd,ptr back,.slice none 0 0] w fun e w'=>∃x y m,e=.returned (.tuple #[ptr x,ptr y])/\w.heap.size<=m/\m<=w'.heap.size/\Dv (fun j=>w.heap.size<=j/\j<m) w' x F [] []/\Dv (fun j=>m<=j) w' y G [] []/\Below w.heap.size w w':=by
 have H:=Y2 hs hb;have nl:∀W,Rd W 1 (.slice none 0 0) ([]:List Bool).length (EO []):=fun W=>(Sl.nil W 0 1).rd;have HC:=qqh (So hs (nl w) (qYf _));clear hs hb;go_enter func42,ntmps42
 go_wp2_with fail
 refine(Ez H.o.1).mono ?_;rintro e w1 ⟨rfl,rfl⟩;go_wp2_with fail
 refine HC.o.mono ?_;rintro e w2 ⟨x,rfl,hx,hb2⟩;rw[rK]at hx;have hu2:=qqb hb2;have hk2:=H.o.2.new hu2;have HC2:=qqh (So hk2 (nl w2) (qYf _));have H2:=Y3 hx hb2 hk2;clear hx hb2 hu2 hk2;go_wp2_with fail
 refine(Ez H2.o.2.2).mono ?_;rintro e w3 ⟨rfl,rfl⟩;go_wp2_with fail
 refine HC2.o.mono ?_;rintro e w4 ⟨y,rfl,hy,hb4⟩;rw[rK]at hy;have H4:=Y2 hy hb4;clear hy hb4;go_wp2_with fail
 go_ret2
 obtain⟨hx,hb2,-⟩:=H2.o;obtain⟨hy,hb4⟩:=H4.o;exact⟨x,y,_,rfl,hb2.size,hb4.size,(hx.out (fun j hj h=>⟨h,hj⟩)).new (uuo hb4),hy,hb2.trans (hb4.mono hb2.size)⟩
theorem En(x y:Option Addr)(c d:Nat)(w:World):Calls prog 116 #[.slice x 0 c,.slice y 0 d] w fun e w'=>e=.returned (.bool true)/\w'=w:=by
 go_enter func116,ntmps116
 go_wp2
 go_loopg[13] 0 (fun _ s13 wr=>s13=.int .i64 0/\wr=w)
 case atStart=>exact⟨rfl,rfl⟩
 case round=>
  obtain⟨rfl,rfl⟩:=hrel;go_wp2
  go_ret
  exact⟨rfl,rfl⟩
theorem zbT{S T:Nat->Prop}{w:World}{a b:Nat}{F:List Bk}(ha:Dv S w a F [] [])(hb:Dv T w b F [] []):
  Calls prog 48 #[.pointer (some ⟨a,0,none⟩),.pointer (some ⟨b,0,none⟩)] w fun e w'=>e=.returned (.bool true)/\Below w.heap.size w w':=by
 obtain⟨vf,vo,vp,ha,-⟩:=ha;obtain⟨uf,uo,up,hb,-⟩:=hb;obtain⟨a0,a1,a2⟩:=ha.c;obtain⟨b0,b1,b2⟩:=hb.c;obtain⟨x0,y0,rfl⟩:=ha.fs.rd.jd;obtain⟨x1,y1,rfl⟩:=ha.os.rd.jd;obtain⟨x2,y2,rfl⟩:=ha.ps.rd.jd;obtain⟨z0,q0,rfl⟩:=hb.fs.rd.jd;obtain⟨z1,q1,rfl⟩:=hb.os.rd.jd;obtain⟨z2,q2,rfl⟩:=hb.ps.rd.jd;have hfl:=ha.good.fl;have H:=Y2 ha hb;clear ha hb;go_enter func48,ntmps48
 go_wp2_with fail
 refine qZj (S:=fun W=>W.cell? ⟨a,0,none⟩=some (.slice x0 F.length y0)/\W.cell? ⟨a,1,none⟩=some (.slice x1 0 y1)/\W.cell? ⟨a,2,none⟩=some (.slice x2 0 y2)/\W.cell? ⟨b,0,none⟩=some (.slice z0 F.length q0)/\W.cell? ⟨b,1,none⟩=some (.slice z1 0 q1)/\W.cell? ⟨b,2,none⟩=some (.slice z2 0 q2)) (by kernel_rfl) (by simp only[qYo];exact⟨a0,a1,a2,b0,b1,b2⟩) (fun hHeld=>?_);refine Wl.i [0,1,2,3,4,5,6,7,8,9,10,11,12,13,14,15,16,17,18,19,20,21,22,23,24,25,26,27,28,29,30,31,32] ?_;iterate 33 refine Wl.t hHeld ?_
 refine Wl.o ?_;refine Wl.r 33 (fun K hK=>?_);go_simp
 refine(En _ _ _ _ _).mono ?_;rintro e w5 ⟨rfl,hw5⟩;rw[hw5];refine hK.o _ _ hHeld (fun _=>?_);clear hK K hw5;refine Wl.i [34,35] ?_;iterate 2 refine Wl.t hHeld ?_
 refine Wl.o ?_;refine Wl.d ?_;have hud:Below w.heap.size w w.drew:=Upd.below ((uur (fun _=>False) w).drew);have HD:=qqh hud;obtain⟨a0,a1,a2,b0,b1,b2⟩:=hHeld;clear hud;go_wp2_with fail
 go_loopg[62] F.length (fun gk s62 wr=>∃i:Nat,i+gk=F.length/\s62=.int .i64 i/\Below w.heap.size w wr)
 case atStart=>exact⟨0,by omega,rfl,HD.o⟩
 case round=>
  obtain⟨i,hi,rfl,hbl⟩:=hrel;obtain⟨ha,hb⟩:=H.o;have hu:=qqb hbl;have da:=ha.new hu;have db:=hb.new hu;by_cases hlt:i<F.length
  .have hx:F[i].length=64:=ha.good.f64 _ (qyz hlt);obtain⟨gA,oA,cA,eA,-,-,rA,-⟩:=da.jJ hlt;obtain⟨gB,oB,cB,eB,-,-,rB,-⟩:=db.jJ hlt;cases eA;cases eB;have cb:=db.c.1;generalize F[i]=y at*;have hk:0<=(i:Int)/\(i:Int)<F.length:=by omega
   have hsi:=zw y hx;have hut:=underlying54;obtain⟨w6,hw6⟩:=qqe (wr.alloc (.cells (bkC y).toArray 54));have hu6:=qqu hw6;have r6:w6.rangeAt wr.heap.size 0 (bkC y):=by rw[hw6];exact zh (zc wr _ rfl)
   have rB6:=hu6.range rB (fun h=>h);have cb6:=hu6.ja cb (fun h=>h);have hb6:Below w.heap.size w w6.drew:=hbl.trans ((Upd.below (hu6.drew)).mono hbl.size);have heq:∀W:World,(binOp .neq 54 (.agg (bkC y).toArray) (.agg (bkC y).toArray)).run prog W=.ok (.bool false) W:=by
    intro W;rw[run_neq_bk _ _ hx hx];simp
   have HW:=Y2 hw6 hb6;clear ha hb hu da db hu6 hb6 hw6 hbl a0 a1 a2 b0 b1 b2 cb;obtain⟨hk1,hk2⟩:=hk;go_wp2_with (first
    |(refine qZg rfl _ _ rfl _ _ rfl _ _ rA hut rfl hsi ?_)
    |(refine zk rfl _ _ _ rfl _ _ (bkC y) rfl rfl (by rw[zn,hx];rfl) hsi (zv y) ?_)
    |fail)
   rw[<-HW.o.1];refine qZj (S:=fun W=>W.rangeAt wr.heap.size 0 (bkC y)/\W.cell? ⟨b,0,none⟩=some (.slice (some ⟨gB,oB,none⟩) F.length q0)/\W.rangeAt gB (oB+i*64) (bkC y)) (by kernel_rfl) (⟨by rw[qYq];exact r6,by rw[qYo];exact cb6,by rw[qYq];exact rB6⟩) (fun hHeld=>?_);refine Wl.l 0 (fun w h=>h.1) hut hsi hHeld ?_;refine Wl.i [1,2,3,4,5,6] ?_;iterate 6 refine Wl.t hHeld ?_
   refine Wl.o ?_;refine Wl.l 7 (fun w h=>h.2.2) hut hsi hHeld ?_;refine Wl.i [8] ?_;refine Wl.t hHeld ?_;refine Wl.o ?_;refine Wl.d ?_;clear hHeld heq;go_wp2_with fail
   go_roundg (gk-1)
   case measure=>omega
   case rel=>exact⟨i+1,by omega,by go_num,HW.o.2⟩
  .obtain rfl:i=F.length:=by omega
   have c1:=da.c.2.1;have HB:=qqh hbl;clear ha hb hu da db hbl a0 a1 a2 b0 b1 b2;go_wp2_with fail
   go_loopg[82] 0 (fun _ s82 wr=>s82=.int .i64 0/\Below w.heap.size w wr)
   case atStart=>exact⟨rfl,HB.o⟩
   case round=>
    obtain⟨rfl,hbl⟩:=hrel;have HC:=qqh hbl;clear hbl;go_wp2_with fail
    go_ret
    exact⟨rfl,HC.o⟩
end Go.Proofs.YtfhfbpmlnjdfoaaGreatDoor
