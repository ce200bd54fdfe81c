/- Logs of noughts: Check, Waits. A cache: load o -/
import Derived.Test.YtfhfbpmlnjdfoaaGreatDoorG44
set_option maxRecDepth 100000
set_option maxHeartbeats 1000000
namespace Go.Proofs.YtfhfbpmlnjdfoaaGreatDoor
open Go Go.RowKit
structure LgsZ(S:Nat->Prop)(w:World)(li lc lf d base k:Nat)(F:List Bk)(O:List (Nat×Bk)):Prop where
 i:LogI w li d base k 140
 c:LogC w lc d (base+k) k 144
 f:LogF w lf d (base+k+k) k 148
 dv:Dv S w d F O []
 fl:base+k+k+k<=F.length
 nS:∀j,w.heap.size<=j->S j
 iS:¬S li
 cS:¬S lc
 fS:¬S lf
 nib:Nib w
 nibS:¬S 0
 zs:∀j,j<k+k+k->curB F O (base+j)=zB
section
variable{S:Nat->Prop}{w w':World}{li lc lf d base k:Nat}{F:List Bk}{O:List (Nat×Bk)}
theorem LgsZ.turn(h:LgsZ S w li lc lf d base k F O)(hu:Upd S w w')(hd:Dv S w' d F O []):LgsZ S w' li lc lf d base k F O:=
 {h with i:=h.i.keep hu h.iS,c:=h.c.keep hu h.cS,f:=h.f.keep hu h.fS,dv:=hd,nS:=fun j hj=>h.nS j (qXx hu.size hj),nib:=h.nib.keep hu h.nibS}
theorem LgsZ.allI(h:LgsZ S w li lc lf d base k F O):Calls Tryz.prog 81 #[.pointer (some ⟨li,0,none⟩)] w (Ut S w d F O 0):=
 SQ h.i h.dv h.nS h.iS h.nib h.nibS (by have:=h.fl;omega) (fun i hi=>h.zs i (by omega))
theorem LgsZ.allC(h:LgsZ S w li lc lf d base k F O):Calls Tryz.prog 82 #[.pointer (some ⟨lc,0,none⟩)] w (Ut S w d F O 0):=
 SS h.c h.dv h.nS h.cS h.nib h.nibS (by have:=h.fl;omega) (fun i hi=>by have:=h.zs (k+i) (by omega);rwa[<-qXr]at this)
theorem LgsZ.allF(h:LgsZ S w li lc lf d base k F O):Calls Tryz.prog 83 #[.pointer (some ⟨lf,0,none⟩)] w (Ut S w d F O 0):=
 SU h.f h.dv h.nS h.fS h.nib h.nibS (by have:=h.fl;omega) (fun i hi=>by have:=h.zs (k+k+i) (by omega);rwa[<-qXr,<-qXr]at this)
theorem LgsZ.box(h:LgsZ S w li lc lf d base k F O)(hu:Upd (fun _=>False) w w'):LgsZ (fun j=>(S j/\j<w.heap.size)\/w'.heap.size<=j) w' li lc lf d base k F O where
 i:=h.i.keep hu (fun h=>h)
 c:=h.c.keep hu (fun h=>h)
 f:=h.f.keep hu (fun h=>h)
 dv:=(h.dv.shrink (T:=fun j=>S j/\j<w.heap.size) (fun j h1 h2=>⟨h1,h2⟩)).keep hu (fun _ _ h=>h)|>.wide (fun j h=> .inl h)
 fl:=h.fl
 nS:=fun j hj=> .inr hj
 iS:=fun h'=>by have:=h.i.lt;have:=hu.size;rcases h' with h'|h';exact h.iS h'.1;omega
 cS:=fun h'=>by have:=h.c.lt;have:=hu.size;rcases h' with h'|h';exact h.cS h'.1;omega
 fS:=fun h'=>by have:=h.f.lt;have:=hu.size;rcases h' with h'|h';exact h.fS h'.1;omega
 nib:=h.nib.keep hu (fun h=>h)
 nibS:=fun h'=>by have:=h.nib.lt;have:=hu.size;rcases h' with h'|h';exact h.nibS h'.1;omega
 zs:=h.zs
theorem LgsZ.back{w1:World}(h:LgsZ S w li lc lf d base k F O)(hu1:Upd (fun _=>False) w w1)(hd:Dv (fun j=>(S j/\j<w.heap.size)\/w1.heap.size<=j) w' d F O [])(hu:Upd (fun j=>(S j/\j<w.heap.size)\/w1.heap.size<=j) w1 w'):Dv S w' d F O []/\Upd S w w':=by
 have hs:=hu1.size;exact⟨hd.wide (fun j h'=>h'.elim (fun h=>h.1) (fun h'=>h.nS j (by omega))),(hu1.mono (fun _ _ h=>h.elim)).new hu (fun i hi h'=>h'.elim (fun h=>h.1) (fun h'=>by omega))⟩
def SV(S:Nat->Prop)(w:World)(d:Nat)(F:List Bk)(O:List (Nat×Bk))(v:Value)(e:Ending)(w':World):Prop:=e=.returned v/\Dv S w' d F O []/\Upd S w w'
theorem EA(h:LgsZ S w li lc lf d base k F O):Calls Tryz.prog 24 #[.agg #[.pointer (some ⟨li,0,none⟩),.pointer (some ⟨lc,0,none⟩),.pointer (some ⟨lf,0,none⟩)]] w (SV S w d F O (.int .i64 0)):=by
 obtain⟨w1,hw1⟩:=qqe (w.alloc (.cells #[.pointer (some ⟨li,0,none⟩),.pointer (some ⟨lc,0,none⟩),.pointer (some ⟨lf,0,none⟩)] 67));have hu1:Upd (fun _=>False) w w1:=by rw[hw1];exact(uur _ w).alloc _
 have g1:w1.heap[w.heap.size]?=some (.cells #[.pointer (some ⟨li,0,none⟩),.pointer (some ⟨lc,0,none⟩),.pointer (some ⟨lf,0,none⟩)] 67 (0,0)):=by rw[hw1];exact zc w _ rfl
 have h1:=h.box hu1;obtain⟨T,hT⟩:∃T:Nat->Prop,T=fun j=>(S j/\j<w.heap.size)\/w1.heap.size<=j:=⟨_,rfl⟩
 rw[<-hT]at h1;have hTq:¬T w.heap.size:=by rw[hT];have:=zd g1;rintro(h|h)<;>omega
 have H:=Y6 h hu1 h1 hT hTq g1;have HW:=qqh hw1;have c0:=za g1 0;have HI:=qqh h1.allI;clear h hu1 h1 hT hTq hw1 g1;go_enter Tryz.func24,Tryz.ntmps24
 go_wp2_with fail
 rw[<-HW.o];refine HI.o.mono ?_;rintro e w2 ⟨rfl,hd2,hu2⟩;have h2:=H.o.2.2.1.turn hu2 hd2;have c1:=za ((hu2.block _ (zd H.o.2.2.2.2.2) H.o.2.2.2.2.1).trans H.o.2.2.2.2.2) 1;have HC:=qqh h2.allC;have H2:=Y2 h2 hu2;clear h2 hd2 hu2 HI c0;go_wp2_with fail
 refine HC.o.mono ?_;rintro e w3 ⟨rfl,hd3,hu3⟩;have h3:=H2.o.1.turn hu3 hd3;have hu13:=H2.o.2.trans hu3;have c2:=za ((hu13.block _ (zd H.o.2.2.2.2.2) H.o.2.2.2.2.1).trans H.o.2.2.2.2.2) 2;have HF:=qqh h3.allF;have H3:=qqh hu13;clear h3 hd3 hu3 hu13 HC c1;go_wp2_with fail
 refine HF.o.mono ?_;rintro e w4 ⟨rfl,hd4,hu4⟩;have hu14:=H3.o.trans hu4;rw[H.o.2.2.2.1]at hd4 hu14;have HE:=qqh (H.o.1.back H.o.2.1 hd4 hu14);clear hd4 hu4 hu14 HF c2;go_wp2
 go_ret
 exact⟨rfl,HE.o.1,HE.o.2⟩
theorem Zs(h:LgsZ S w li lc lf d base k F O)(m:Value)(hm:∃mb,m=.map (some mb)):Calls Tryz.prog 149 #[.pointer (some ⟨lc,0,none⟩),m,.func (.func 150) #[] #[]] w (SV S w d F O (.int .i64 0)):=by
 have HA:=qqh h.allC;obtain⟨mb,rfl⟩:=hm;clear h;go_enter Tryz.func149,Tryz.ntmps149
 go_wp2_with fail
 refine HA.o.mono ?_;rintro e w2 ⟨rfl,hd2,hu2⟩;have H2:=Y2 hd2 hu2;clear hd2 hu2 HA;go_wp2_with fail
 go_loopg[21] 0 (fun gk s21 wr=>s21=.int .i64 0/\wr=w2)
 case atStart=>exact⟨rfl,rfl⟩
 case round=>
  obtain⟨rfl,hw⟩:=hrel;rw[hw];clear hw;go_wp2_with fail
  go_ret
  exact⟨rfl,H2.o.1,H2.o.2⟩
theorem Zt(h:LgsZ S w li lc lf d base k F O)(m:Value)(hm:∃mb,m=.map (some mb)):Calls Tryz.prog 151 #[.pointer (some ⟨lf,0,none⟩),m,.func (.func 152) #[] #[]] w (SV S w d F O (.int .i64 0)):=by
 have HA:=qqh h.allF;obtain⟨mb,rfl⟩:=hm;clear h;go_enter Tryz.func151,Tryz.ntmps151
 go_wp2_with fail
 refine HA.o.mono ?_;rintro e w2 ⟨rfl,hd2,hu2⟩;have H2:=Y2 hd2 hu2;clear hd2 hu2 HA;go_wp2_with fail
 go_loopg[21] 0 (fun gk s21 wr=>s21=.int .i64 0/\wr=w2)
 case atStart=>exact⟨rfl,rfl⟩
 case round=>
  obtain⟨rfl,hw⟩:=hrel;rw[hw];clear hw;go_wp2_with fail
  go_ret
  exact⟨rfl,H2.o.1,H2.o.2⟩
theorem XW(h:LgsZ S w li lc lf d base k F O):Calls Tryz.prog 78 #[.agg #[.pointer (some ⟨li,0,none⟩),.pointer (some ⟨lc,0,none⟩),.pointer (some ⟨lf,0,none⟩)]] w (SV S w d F O (.tuple #[.slice none 0 0,.int .i64 0])):=by
 have hmm:= @run_makeMap Tryz.prog;obtain⟨w1,hw1⟩:=qqe (w.alloc (.cells #[.pointer (some ⟨li,0,none⟩),.pointer (some ⟨lc,0,none⟩),.pointer (some ⟨lf,0,none⟩)] 67));have hu1:Upd (fun _=>False) w w1:=by rw[hw1];exact(uur _ w).alloc _
 have g1:w1.heap[w.heap.size]?=some (.cells #[.pointer (some ⟨li,0,none⟩),.pointer (some ⟨lc,0,none⟩),.pointer (some ⟨lf,0,none⟩)] 67 (0,0)):=by rw[hw1];exact zc w _ rfl
 have h1:=h.box hu1;obtain⟨T,hT⟩:∃T:Nat->Prop,T=fun j=>(S j/\j<w.heap.size)\/w1.heap.size<=j:=⟨_,rfl⟩
 rw[<-hT]at h1;have hTq:¬T w.heap.size:=by rw[hT];have:=zd g1;rintro(h|h)<;>omega
 have hTn:∀j,w1.heap.size<=j->T j:=fun j hj=>by rw[hT];exact .inr hj
 have H:=Y7 h hu1 h1 hT hTq g1 hTn;have HW:=qqh hw1;have c0:=za g1 0;have HI:=qqh h1.allI;clear h hu1 h1 hT hTq hw1 g1 hTn;go_enter Tryz.func78,Tryz.ntmps78
 go_wp2_with fail
 rw[<-HW.o];refine HI.o.mono ?_;rintro e w2 ⟨rfl,hd2,hu2⟩;obtain⟨w3,hw3⟩:=qqe (w2.alloc (.map #[] 0));have hu3:Upd T w2 w3:=by rw[hw3];exact((uur _ w2).alloc _)
 have h3:=(H.o.2.2.1.turn hu2 hd2).turn hu3 (hd2.new (by rw[hw3];exact((uur _ w2).alloc _)));have hu13:=hu2.trans hu3;have c1:=za ((hu13.block _ (zd H.o.2.2.2.2.2.1) H.o.2.2.2.2.1).trans H.o.2.2.2.2.2.1) 1;have HC:=qqh (Zs h3 (.map (some w2.heap.size)) ⟨_,rfl⟩);have H3:=Y2 h3 hu13;have HW3:=qqh hw3;rw[hw3]at c1;clear h3 hd2 hu2 hu3 hu13 HI c0 hw3;go_wp2_with fail
 rw[<-HW3.o];refine HC.o.mono ?_;rintro e w4 ⟨rfl,hd4,hu4⟩;have h4:=H3.o.1.turn hu4 hd4;have hu14:=H3.o.2.trans hu4;have c2:=za ((hu14.block _ (zd H.o.2.2.2.2.2.1) H.o.2.2.2.2.1).trans H.o.2.2.2.2.2.1) 2;have HF:=qqh (Zt h4 (.map (some w2.heap.size)) ⟨_,rfl⟩);have H4:=qqh hu14;clear h4 hd4 hu4 hu14 HC c1;go_wp2_with fail
 refine HF.o.mono ?_;rintro e w5 ⟨rfl,hd5,hu5⟩;have hu15:=H4.o.trans hu5;rw[H.o.2.2.2.1]at hd5 hu15;have HE:=qqh (H.o.1.back H.o.2.1 hd5 hu15);clear hd5 hu5 hu15 HF c2;go_wp2_with fail
 go_loopg[9,38] 0 (fun gk s9 s38 wr=>s9=.slice none 0 0/\s38=.int .i64 0/\wr=w5)
 case atStart=>exact⟨rfl,rfl,rfl⟩
 case round=>
  obtain⟨rfl,rfl,hw⟩:=hrel;rw[hw];clear hw;go_wp2_with fail
  go_ret2
  exact⟨rfl,HE.o.1,HE.o.2⟩
end
section
variable{own own':Nat->Nat}{w w':World}{c:Nat}{n:CaN}{p:CaP}{a:CaS}
theorem QS(h:CaAt own w c n p a)(ao:Option Addr)(cap:Nat):Calls Tryz.prog 136 #[ptr c,.slice ao 0 cap] w (RI own w c n p a):=by
 have hs2:=h.ok.s2;obtain⟨s0,s1,s2,s3,s4,s5,s6⟩:=h.sup;have HC:=qqh h;clear h s0 s1 s3 s4 s5 s6;go_enter Tryz.func136,Tryz.ntmps136
 go_wp2_with fail
 go_loopw[5,15] (fun _ s15 wr=>∃k own1,k<=n.sl/\s15=.int .i64 (k:Int)/\CaAt own1 wr c n p {a with G:=uW a.G k}/\Did own own1 w wr) (fun _ s15 _=>n.sl-(intOf s15).toNat)
 case atStart=>exact⟨0,own,qYf _,rfl,by rw[Xg];exact HC.o,Did.refl HC.o.far⟩
 case round=>
  obtain⟨k,own1,hk,rfl,hca,hdid⟩:=hrel;by_cases hlt:k<n.sl
  .obtain ⟨d0,d1,d2,d3,d4,d5,d6,d7,d8⟩:=hca.cells;have HP:=qqh (Wq hca k hlt (-1) (.inl rfl));have HD:=qqh hdid;clear hca hdid d0 d1 d2 d3 d4 d5 d7 d8 s2;go_wp2_with fail
   refine HP.o.mono ?_;rintro e w1 ⟨rfl,own2,hca2,hdid2⟩;have HE:=Y2 hca2 hdid2;clear hca2 hdid2;go_wp2
   go_roundw
   case rel=>
    refine⟨k+1,own2,by omega,by go_num,?_,HD.o.trans HE.o.2⟩;have:=HE.o.1;simp only[Xh (show k<a.G.length by rw[HC.o.Gl];exact hlt)]at this;exact this
   case measure=>simp[intOf];omega
  .obtain rfl:k=n.sl:=by omega
   have HD:=Y2 hca hdid;clear hca hdid s2;go_wp2
   go_loopw[27] (fun s27 wr'=>s27=.int .i64 0/\wr'=wr) (fun _ _=>0)
   case atStart=>exact⟨rfl,rfl⟩
   case round=>
    obtain⟨rfl,rfl⟩:=hrel;go_wp2
    go_ret
    refine⟨rfl,own1,?_,HD.o.2⟩;have:=HD.o.1;rw[<-HC.o.Gl,Vt,HC.o.Gl]at this;exact this
end
def AQ(w:World)(n:CaN)(d:Nat)(e:Ending)(w':World):Prop:=
 ∃li lc lf,e=.returned (.tuple #[.agg #[ptr li,ptr lc,ptr lf],.int .i64 0])/\LogI w' li d (1+2*n.pa+n.jo) n.lo 140/\LogC w' lc d (1+2*n.pa+n.jo+n.lo) n.lo 144/\
  LogF w' lf d (1+2*n.pa+n.jo+n.lo+n.lo) n.lo 148/\(w.heap.size<=li/\w.heap.size<=lc/\w.heap.size<=lf)/\Below w.heap.size w w'
theorem QT(n:CaN)(w:World):(Instr.field 40 (.agg n.C.toArray) 5).run Tryz.prog w=.ok (.int .i64 (n.lo:Int)) w:=by kernel_rfl
section
variable{own own':Nat->Nat}{w w':World}{c:Nat}{n:CaN}{p:CaP}{a:CaS}
theorem AR(h:CaAt own w c n p a):Calls Tryz.prog 76 #[ptr c] w (AQ w n p.ssd):=by
 obtain⟨V,hV⟩:=qqe (layC n.sl n.jo n.pa n.lo);obtain⟨w1,hw1⟩:=qqe (w.alloc (.cells #[.pointer none,.pointer none,.pointer none] 67));have hu1:Upd (fun _=>False) w w1:=by rw[hw1];exact(uur _ w).alloc _
 have h1:=h.new hu1;have hg1:w1.heap[w.heap.size]?=some (.cells #[.pointer none,.pointer none,.pointer none] 67 (0,0)):=by rw[hw1];exact zc w _ rfl
 have H1:=Y4 h1 hu1 hg1 hV;have hC:=qqh (Jq h1);have HW1:=qqh hw1;have HO:=qqh h.ok;clear h h1 hu1 hw1 hV hg1;go_enter Tryz.func76,Tryz.ntmps76
 go_wp2_with fail
 rw[<-HW1.o];refine hC.out.mono ?_;rintro e w2 ⟨rfl,hu2⟩;have h2:=H1.o.1.new hu2;have H2:=Y2 h2 hu2;have hL:=WN h2;rw[<-H1.o.2.2.2]at hL;have HL:=qqh hL;clear h2 hu2 hL;go_wp2_with fail
 refine HL.o.mono ?_;rintro e w3 ⟨rfl,hb3⟩;have hu3:=qqb hb3;have h3:=H2.o.1.new hu3;have H3:=Y2 h3 hu3;have HS:=qqh (Qc h3);clear h3 hu3 hb3;go_wp2_with fail
 refine HS.o.mono ?_;rintro e w4 ⟨rfl,hb4⟩;have hu4:=qqb hb4;clear hb4;obtain⟨w5,hw5⟩:=qqe (w4.alloc (.cells V.toArray 43));have hu5:Upd (fun _=>False) w4 w5:=by rw[hw5];exact(uur _ w4).alloc _
 have hg5:w5.heap[w4.heap.size]?=some (.cells V.toArray 43):=by rw[hw5];exact zc w4 _ rfl
 have hVl:V.length=7:=by rw[H1.o.2.2.2];rfl
 have hV1:∀v∈V,v.oneCell'=true:=by rw[H1.o.2.2.2];exact WM _ _ _ _
 have hsV:Hid ((Tryz.prog.info? 43).map (·.size)=some V.length):=by show _=_;rw[hVl];exact xG
 have h5:=(H3.o.1.new hu4).new hu5;have U5:=(((H1.o.2.1.trans H2.o.2).trans H3.o.2).trans hu4).trans hu5;have g15:=(((H2.o.2.trans H3.o.2).trans hu4).trans hu5).blockv H1.o.2.2.1;have H5:=Y6 h5 U5 hg5 hVl hV1 g15;have HW5:=qqh hw5;have hz:n.size<=4096:=HO.o.z;have hl1:=HO.o.l1;have hdl:=h5.fl;have HN:=qqh (Sz h5.ssd (1+2*n.pa+n.jo) n.lo hl1 (by rw[hdl];unfold CaN.size;omega) 140);have hfd:=QT n;clear hu4 hu5 hg5 hVl hV1 h5 U5 g15 hw5 hdl;go_upto_region 5 with(first
  |(refine zk rfl _ _ _ rfl _ _ _ rfl rfl (by rw[H5.o.2.2.2.1];rfl) hsV.out H5.o.2.2.2.2.1 ?_)
  |fail)
 rw[<-HW5.o];clear hfd;have hvc:=za H5.o.2.2.1;rw[H1.o.2.2.2]at hvc;have v2:w5.cell? ⟨w4.heap.size,2,none⟩=some (.int .i64 (1+2*(n.pa:Int)+(n.jo:Int))):=hvc 2;have e1:(((1+2*n.pa+n.jo:Nat)):Int)=1+2*(n.pa:Int)+(n.jo:Int):=by simp
 rw[e1]at HN;clear hvc e1;go_wp2_with fail
 refine HN.o.mono ?_;rintro e w6 ⟨rfl,hl6,hb6⟩;have hu6:=qqb hb6;have h6:=H5.o.1.new hu6;have hdl:=h6.fl;have HN:=qqh (SA h6.ssd (1+2*n.pa+n.jo+n.lo) n.lo hl1 (by rw[hdl];unfold CaN.size;omega) 144);have H6:=Y3 h6 hl6 hu6;have hvc:=za (hu6.blockv H5.o.2.2.1);rw[H1.o.2.2.2]at hvc;have v3:w6.cell? ⟨w4.heap.size,3,none⟩=some (.int .i64 (1+2*(n.pa:Int)+(n.jo:Int)+(n.lo:Int))):=hvc 3;have e1:(((1+2*n.pa+n.jo+n.lo:Nat)):Int)=1+2*(n.pa:Int)+(n.jo:Int)+(n.lo:Int):=by simp
 rw[e1]at HN;clear hvc e1 h6 hl6 hb6 hu6 hdl v2;go_wp2_with fail
 refine HN.o.mono ?_;rintro e w7 ⟨rfl,hl7,hb7⟩;have hu7:=qqb hb7;have h7:=H6.o.1.new hu7;have hdl:=h7.fl;have HN:=qqh (SB h7.ssd (1+2*n.pa+n.jo+n.lo+n.lo) n.lo hl1 (by rw[hdl];unfold CaN.size;omega) 148);have H7:=Y2 hl7 hu7;have hvc:=za ((H6.o.2.2.trans hu7).blockv H5.o.2.2.1);rw[H1.o.2.2.2]at hvc;have v4:w7.cell? ⟨w4.heap.size,4,none⟩=some (.int .i64 (1+2*(n.pa:Int)+(n.jo:Int)+(n.lo:Int)+(n.lo:Int))):=hvc 4;have e1:(((1+2*n.pa+n.jo+n.lo+n.lo:Nat)):Int)=1+2*(n.pa:Int)+(n.jo:Int)+(n.lo:Int)+(n.lo:Int):=by simp
 rw[e1]at HN;clear hvc e1 h7 hl7 hb7 hu7 hdl v3;go_wp2_with fail
 refine HN.o.mono ?_;rintro e w8 ⟨rfl,hl8,hb8⟩;have hu8:=qqb hb8;have g8:=((H6.o.2.2.trans H7.o.2).trans hu8).blockv H5.o.2.2.2.2.2;have c80:=za g8 0;have c81:=za g8 1;have c82:=za g8 2;have f8:=zf g8;have f80:=f8 0;have f81:=f8 1;have f82:=f8 2;have H8:=Y3 hl8 hu8 g8;clear hl8 hb8 hu8 g8 f8 v4;go_wp2
 obtain⟨hl8,hu8,g8⟩:=H8.o;have s0:=zh g8 0 (ptr w5.heap.size);have s1:=zh s0 1 (ptr w6.heap.size);have s2:=zh s1 2 (ptr w7.heap.size);have t1:=((zi w8 w.heap.size 0 (ptr w5.heap.size)).trans (zi _ w.heap.size 1 (ptr w6.heap.size))).trans (zi _ w.heap.size 2 (ptr w7.heap.size));have z1:=H1.o.2.1.size;have z5:=H5.o.2.1.size;have z6:=H6.o.2.2.size;have z7:=H7.o.2.size;have hw:w.heap.size<w5.heap.size:=zd H5.o.2.2.2.2.2;have li:=((H6.o.2.1.keep H7.o.2 (fun h=>h)).keep hu8 (fun h=>h)).keep t1 (by omega);have lc:=(H7.o.1.keep hu8 (fun h=>h)).keep t1 (by omega);have lf:=hl8.keep t1 (by omega);refine qYw (zn rfl _ _ w.heap.size 0 [ptr w5.heap.size,ptr w6.heap.size,ptr w7.heap.size] _ rfl (zg s2) Tryz.underlying67 rfl (by kernel_rfl)) rfl ⟨w5.heap.size,w6.heap.size,w7.heap.size,rfl,li,lc,lf,⟨by omega,by omega,by omega⟩,?_⟩;exact Upd.below ((((H5.o.2.1.trans H6.o.2.2).trans H7.o.2).trans hu8).new t1 (fun i hi e=>by omega))
end
structure Dvs(own:Nat->Nat)(w:World)(ssd back:Nat)(F:List Bk)(O:List (Nat×Bk))(G:List Bk)(Q:List (Nat×Bk))(P:List Int):Prop where
 ssd:Dv (fun j=>own j=2) w ssd F O []
 back:Dv (fun j=>own j=3) w back G Q P
 far:∀j,w.heap.size<=j->own j=0
 nib:Nib w
 tur:Tur w
 on:own 0=0
 ot:own 1=0
section
variable{own own':Nat->Nat}{w w':World}{ssd back:Nat}{F G:List Bk}{O Q:List (Nat×Bk)}{P:List Int}
theorem Dvs.new(h:Dvs own w ssd back F O G Q P)(hu:Upd (fun _=>False) w w'):Dvs own w' ssd back F O G Q P:=
 ⟨h.ssd.new hu,h.back.new hu,fun j hj=>h.far j (qXx hu.size hj),h.nib.keep hu (fun h=>h),h.tur.keep hu (fun h=>h),h.on,h.ot⟩
theorem Dvs.didNew(h:Dvs own w ssd back F O G Q P)(hu:Upd (fun _=>False) w w'):Did own own w w':=⟨hu.mono (fun _ _ h=>h.elim),fun _ _=>rfl,fun j hj=>by rw[h.far j hj];decide,fun j hj=>h.far j (qXx hu.size hj)⟩
theorem Dvs.open2(h:Dvs own w ssd back F O G Q P):Dv (fun j=>own j=2\/w.heap.size<=j) w ssd F O []:=(Dv.thing _ _ _ _).open h.ssd
theorem Dvs.on2(h:Dvs own w ssd back F O G Q P):¬(own 0=2\/w.heap.size<=0):=fun h'=>by rcases h' with h'|h';rw[h.on]at h';exact absurd h' (by decide);exact absurd h.nib.lt (by omega)
theorem Dvs.turn2{F':List Bk}{O':List (Nat×Bk)}(h:Dvs own w ssd back F O G Q P)(hu:Upd (fun j=>own j=2\/w.heap.size<=j) w w')(hd:Dv (fun j=>own j=2\/w.heap.size<=j) w' ssd F' O' []):Dvs (grow own 2 w.heap.size w'.heap.size) w' ssd back F' O' G Q P where
 ssd:=(Dv.thing _ _ _ _).mine hu.size hd
 back:=(Dv.thing _ _ _ _).other h.back (by decide) hu
 far:=(Did.step h.far (t:=2) (by decide) (by decide) hu).far
 nib:=h.nib.keep hu h.on2
 tur:=h.tur.keep hu (fun hs=>by rcases hs with hs|hs;rw[h.ot]at hs;exact absurd hs (by decide);exact absurd h.tur.lt (by omega))
 on:=(zx h.nib.lt).trans h.on
 ot:=(zx h.tur.lt).trans h.ot
theorem Dvs.did2(h:Dvs own w ssd back F O G Q P)(hu:Upd (fun j=>own j=2\/w.heap.size<=j) w w'):Did own (grow own 2 w.heap.size w'.heap.size) w w':=Did.step h.far (by decide) (by decide) hu
theorem Did.zero{b:Nat}{o:Obj}(d:Did own own' w w')(hb:w.heap[b]?=some o)(h0:own b=0):w'.heap[b]?=some o/\own' b=0:=
 ⟨(d.upd.block _ (zd hb) (fun h=>h.1 h0)).trans hb,(d.old _ (zd hb)).trans h0⟩
def Kps(own:Nat->Nat)(w:World)(Fx:Nat->Option Obj):Prop:=∀b o,Fx b=some o->w.heap[b]?=some o/\own b=0
theorem Kps.did{Fx:Nat->Option Obj}(h:Kps own w Fx)(d:Did own own' w w'):Kps own' w' Fx:=fun b o hb=>d.zero (h b o hb).1 (h b o hb).2
theorem Kps.aside{Fx:Nat->Option Obj}(h:Kps own w Fx){S:Nat->Prop}(hu:Upd S w w')(hS:∀j,S j->Fx j=none):Kps own w' Fx:=fun b o hb=>
 ⟨(hu.block _ (zd (h b o hb).1) (fun hs=>by rw[hS b hs]at hb;cases hb)).trans (h b o hb).1,(h b o hb).2⟩
theorem qR{b:Nat}{v:Array Value}{t:TypeId}(hn:Nib w)(ht:Tur w)(hb:w.heap[b]?=some (.cells v t (0,0)))(h0:own b=0)(hp:∀k x,v[0]?≠some (.int k x)):∀j,j=b->own j=0/\j≠0/\j≠1:=by
 rintro j rfl;refine⟨h0,fun e=>?_,fun e=>?_⟩
 .have h2:=za hb 0;rw[e]at h2;exact hp _ _ (h2.symm.trans (hn.c 0 (by decide)))
 .have h2:=za hb 0;rw[e]at h2;exact hp _ _ (h2.symm.trans ht.c0)
theorem Did.mine{b:Nat}{w2:World}(d:Did own own' w w')(hu:Upd (fun j=>j=b) w' w2)(hb:w.heap.size<=b):Did own own' w w2:=
 ⟨d.upd.new hu (fun i hi e=>by omega),d.old,d.new,fun j hj=>d.far j (qXx hu.size hj)⟩
theorem vj{b:Nat}{v u:Value}{t:TypeId}(h:w.heap[b]?=some (.cells #[v] t (0,0))):(w.setCell ⟨b,0,none⟩ u).heap[b]?=some (.cells #[u] t (0,0)):=zh h 0 u
end
def AS(own:Nat->Nat)(w:World)(ssd back s13:Nat)(n:CaN)(a:CaS)(e:Ending)(w':World):Prop:=
 e=.returned (.int .i64 0)/\∃c p own' w2,CaAt own' w2 c n p a/\p.ssd=ssd/\p.back=back/\Did own own' w w2/\w'=w2.setCell ⟨s13,0,none⟩ (ptr c)
theorem zax{own:Nat->Nat}{w:World}{ssd back s8 q qb s10 s11 s12 s13:Nat}{n:CaN}{ao:Option Addr}{ln lc:Nat}{a:CaS}{x:Value}(wh sq:Nat)
  (hnew:Calls Tryz.prog 74 #[.agg n.C.toArray,ptr ssd,ptr back,.int .i64 (wh:Int),.int .i64 ((sq+1:Nat):Int),.slice ao ln lc] w (TV own w ssd back n a))
  (hsq:sq<1099511627776) (h8:w.rangeAt s8 0 n.C) (cq:w.cell? ⟨q,0,none⟩=some (ptr ssd)) (cb:w.cell? ⟨qb,0,none⟩=some (ptr back)) (c10:w.cell? ⟨s10,0,none⟩=some (.int .i64 (wh:Int)))
  (c11:w.cell? ⟨s11,0,none⟩=some (.int .i64 (sq:Int))) (c12:w.cell? ⟨s12,0,none⟩=some (.slice ao ln lc)) (h13:w.heap[s13]?=some (.cells #[x] 62 (0,0))) (o13:own s13=0):
  Calls Tryz.prog 73 #[ptr s8,ptr q,ptr qb,ptr s10,ptr s11,ptr s12,ptr s13] w (AS own w ssd back s13 n a):=by
 obtain⟨U,hU⟩:=qqe (n.C);have hN:=qqh hnew;have hsU:(Tryz.prog.info? 40).map (·.size)=some U.length:=by rw[hU];exact yY
 rw[<-hU]at h8 hN;rw[show((sq+1:Nat):Int)=(sq:Int)+1 by simp]at hN;have H:=Y2 h13 o13;clear hnew hU h13 o13;go_enter Tryz.func73,Tryz.ntmps73
 go_wp2_with (first
  |(refine qZg rfl _ _ rfl _ _ rfl _ _ h8 Tryz.underlying40 rfl hsU ?_)
  |fail)
 refine hN.out.mono ?_;rintro e w2 ⟨c,p,own2,rfl,hp1,hp2,hca,hdid⟩;have g2:=(hdid.zero H.o.1 H.o.2).1;have k2:=za g2 0;have f2:=zf g2 0;have H2:=Y4 hca hdid hp1 hp2;clear hca hdid g2 hp1 hp2 h8 cq cb c10 c11 c12 hN;go_wp2
 go_ret
 exact⟨rfl,c,p,own2,w2,H2.o.1,H2.o.2.2.1,H2.o.2.2.2,H2.o.2.1,rfl⟩
def AT(_own:Nat->Nat)(w:World)(d s14:Nat)(n:CaN)(e:Ending)(w':World):Prop:=
 e=.returned (.int .i64 0)/\∃li lc lf w2,LogI w2 li d (1+2*n.pa+n.jo) n.lo 140/\LogC w2 lc d (1+2*n.pa+n.jo+n.lo) n.lo 144/\LogF w2 lf d (1+2*n.pa+n.jo+n.lo+n.lo) n.lo 148/\
  (w.heap.size<=li/\w.heap.size<=lc/\w.heap.size<=lf)/\Upd (fun _=>False) w w2/\w'=w2.setCells s14 0 [ptr li,ptr lc,ptr lf]
theorem xD:(Tryz.prog.info? 67).map (·.size)=some 3:=by kernel_rfl
theorem zay{own:Nat->Nat}{w:World}{c s13 s14:Nat}{n:CaN}{p:CaP}{a:CaS}{x y z:Value}(hca:CaAt own w c n p a)(h13:w.cell? ⟨s13,0,none⟩=some (ptr c))(h14:w.heap[s14]?=some (.cells #[x,y,z] 67 (0,0))):
  Calls Tryz.prog 75 #[ptr s13,ptr s14] w (AT own w p.ssd s14 n):=by
 have HO:=qqh (AR hca);have H14:=qqh h14;clear hca h14;go_enter Tryz.func75,Tryz.ntmps75
 go_wp2_with fail
 refine HO.o.mono ?_;rintro e w2 ⟨li,lc,lf,rfl,hi,hc,hf,hz,hb⟩;have hu:=qqb hb;have g2:=hu.blockv H14.o;have tA:=zD (n:=3) g2 (by simp);have HE:=Y5 hi hc hf hz hu;clear hi hc hf hz hu hb g2 h13 HO;go_wp2_with (first
  |(refine qZi rfl _ _ _ rfl _ _ [ptr li,ptr lc,ptr lf].toArray rfl rfl tA xD (by simp[Value.oneCell']) ?_)
  |fail)
 go_ret
 exact⟨rfl,li,lc,lf,w2,HE.o.1,HE.o.2.1,HE.o.2.2.1,HE.o.2.2.2.1,HE.o.2.2.2.2,rfl⟩
def AU(S:Nat->Prop)(w:World)(d s15:Nat)(F:List Bk)(O:List (Nat×Bk))(e:Ending)(w':World):Prop:=
 e=.returned (.int .i64 0)/\∃w2,Dv S w2 d F O []/\Upd S w w2/\w'=w2.setCell ⟨s15,0,none⟩ (.slice none 0 0)
theorem zaz{S:Nat->Prop}{w:World}{li lc lf d base k s14 s15:Nat}{F:List Bk}{O:List (Nat×Bk)}{x:Value}(h:LgsZ S w li lc lf d base k F O)(h14:w.heap[s14]?=some (.cells #[ptr li,ptr lc,ptr lf] 67 (0,0)))
  (h15:w.heap[s15]?=some (.cells #[x] 68 (0,0))) (o15:¬S s15):
  Calls Tryz.prog 77 #[ptr s14,ptr s15] w (AU S w d s15 F O):=by
 have HW:=qqh (XW h);have r14:w.rangeAt s14 0 [ptr li,ptr lc,ptr lf]:=zg h14;have H15:=Y2 h15 o15;clear h h14 h15 o15;go_enter Tryz.func77,Tryz.ntmps77
 go_wp2_with (first
  |(refine qZg rfl _ _ rfl _ _ rfl _ _ r14 Tryz.underlying67 rfl xD ?_)
  |fail)
 refine HW.o.mono ?_;rintro e w2 ⟨rfl,hd,hu⟩;have g2:=(hu.block _ (zd H15.o.1) H15.o.2).trans H15.o.1;have k2:=za g2 0;have f2:=zf g2 0;have HE:=Y2 hd hu;clear hd hu g2 r14 HW;go_wp2
 go_ret
 exact⟨rfl,w2,HE.o.1,HE.o.2,rfl⟩
theorem zaA{own:Nat->Nat}{w:World}{c s13:Nat}{n:CaN}{p:CaP}{a':CaS}(hck:Calls Tryz.prog 80 #[ptr c] w (zu own w c n p a' (.int .i64 0)))(h13:w.cell? ⟨s13,0,none⟩=some (ptr c)):
  Calls Tryz.prog 79 #[ptr s13] w (zu own w c n p a' (.int .i64 0)):=by
 have HO:=qqh hck;clear hck;go_enter Tryz.func79,Tryz.ntmps79
 go_wp2_with fail
 refine HO.o.mono ?_;rintro e w2 ⟨rfl,own2,h2,d2⟩;have H2:=Y2 h2 d2;clear h2 d2 HO h13;go_wp2
 go_ret
 exact⟨rfl,own2,H2.o.1,H2.o.2⟩
theorem QU(ao:Option Addr)(lc:Nat)(f:Value)(w:World):Calls Tryz.prog 130 #[.slice ao 0 lc,f] w fun e w'=>e=.returned (.int .i64 (-1))/\w'=w:=by
 go_enter Tryz.func130,Tryz.ntmps130
 go_wp2_with fail
 go_loopg[8] 0 (fun gk s8 wr=>s8=.int .i64 0/\wr=w)
 case atStart=>exact⟨rfl,rfl⟩
 case round=>
  obtain⟨rfl,rfl⟩:=hrel;go_wp2_with fail
  go_ret
  exact⟨rfl,rfl⟩
theorem QV(ao:Option Addr)(lc:Nat)(f:Value)(w:World):Calls Tryz.prog 71 #[.slice ao 0 lc,f] w fun e w'=>e=.returned (.slice ao 0 lc)/\w'=w:=by
 go_enter Tryz.func71,Tryz.ntmps71
 go_wp2_with fail
 refine(QU ao lc f w).mono ?_;rintro e w2 ⟨rfl,h⟩;rw[h];clear h;go_wp2
 go_ret
 exact⟨rfl,rfl⟩
section
variable{own:Nat->Nat}{w w':World}{c:Nat}{n:CaN}{p:CaP}{a:CaS}
theorem CaAt.hand(h:CaAt own w c n p a){v:Value}(hv:∀g,v.ownBlock=some g->own g=2)(hd:Dv (fun j=>own j=2/\∀g,v.ownBlock=some g->g≠j) w p.ssd a.dF a.dO a.dP):CaAt (fun j=>if v.ownBlock=some j then 0 else own j) w c n p a:=by
 have hk:∀{k j:Nat},k≠2->own j=k->(if v.ownBlock=some j then 0 else own j)=k:=fun hk hj=>by
  rw[if_neg (fun e=>hk (by rw[<-hj,hv _ e]))];exact hj
 exact{h with
  oc:=hk (by decide) h.oc
  ssd:=(Dv.thing _ _ _ _).out hd (fun j _ hs=>by
   show(if v.ownBlock=some j then 0 else own j)=2;rw[if_neg (fun e=>hs.2 _ e rfl)];exact hs.1)
  back:=(Dv.thing _ _ _ _).out h.back (fun j _ hs=>hk (by decide) hs)
  jr:=(Jn.thing _ _ _ _ _ _ _).out h.jr (fun j _ hs=>hk (by decide) hs)
  ix:=(Ix.thing _ _ _ _).out h.ix (fun j _ hs=>hk (by decide) hs)
  ss:=(Ss.thing _ _).out h.ss (fun j _ hs=>hk (by decide) hs)
  lg:=(Lg.thing _ _ _).out h.lg (fun j _ hs=>hk (by decide) hs)
  ck:=(Ck.thing _ _ _ _ _ _ _).out h.ck (fun j _ hs=>hk (by decide) hs)
  sm:=(Mp.thing _ _ _).out h.sm (fun j _ hs=>hk (by decide) hs)
  far:=fun j hj=>by
   show(if v.ownBlock=some j then 0 else own j)=0;split
   .rfl
   .exact h.far j hj
  on:=hk (by decide) h.on
  ot:=hk (by decide) h.ot}
def tL(own:Nat->Nat)(w:World)(c:Nat)(n:CaN)(p:CaP)(a:CaS)(v:Value)(w':World):Prop:=
 ∃own',CaAt own' w' c n p a/\Did own own' w w'/\∀g,v.ownBlock=some g->w.heap.size<=g/\own' g=0
theorem CaAt.handed(h:CaAt own w c n p a)(hP:a.dP=[]){v:Value}(hf:From w.heap.size v)(hlt:∀g,v.ownBlock=some g->g<w'.heap.size)(hu:Upd (fun j=>own j=2\/w.heap.size<=j) w w')
  (hd:Dv (fun j=>(own j=2\/w.heap.size<=j)/\∀g,v.ownBlock=some g->g≠j) w' p.ssd a.dF a.dO []):tL own w c n p a v w':=by
 have e:{a with dF:=a.dF,dO:=a.dO,dP:=[]}=a:=by rw[<-hP]
 have h1:=h.turn2 hu (hd.wide (fun j h=>h.1)) rfl;rw[e]at h1;have d1:=h.did2 hu;have hg2:∀g,v.ownBlock=some g->grow own 2 w.heap.size w'.heap.size g=2:=fun g hg=>if_pos ⟨hf g hg,hlt g hg⟩;have h2:=h1.hand hg2 (by
  rw[hP];refine(Dv.thing _ _ _ _).out hd (fun j hj hs=>⟨?_,hs.2⟩);show grow own 2 w.heap.size w'.heap.size j=2;unfold grow;split
  .rfl
  .rcases hs.1 with h|h
   .exact h
   .omega)
 refine⟨_,h2,⟨d1.upd,fun j hj=>?_,fun j hj=>?_,fun j hj=>?_⟩,fun g hg=>⟨hf g hg,by show(if v.ownBlock=some g then 0 else _)=0;rw[if_pos hg]⟩⟩
 .show (if v.ownBlock=some j then 0 else _)=_;rw[if_neg (fun e=>by have:=hf j e;omega)];exact d1.old j hj
 .show (if v.ownBlock=some j then 0 else _)<16;split
  .decide
  .exact d1.new j hj
 .show (if v.ownBlock=some j then 0 else _)=0;split
  .rfl
  .exact d1.far j hj
end
open Go Go.RowKit Go.Shelf
attribute [local go_sem] qYh
end Go.Proofs.YtfhfbpmlnjdfoaaGreatDoor
