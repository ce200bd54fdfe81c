/- Which ops, and -/
import Derived.Test.YtbnpkobbnjihjaaGreatDoorG40
import Derived.Deep.CutBlock
set_option maxRecDepth 100000
namespace Go.Proofs.YtbnpkobbnjihjaaGreatDoor
open Go Go.RowKit Tryz
abbrev opS(d fr m fi:Int)(kp:Value):List Value:=[.int .i64 d,.int .i64 fr,.int .i64 m,.int .i64 fi,kp]
section
variable{n:CaN}{d fr m fi:Int}
theorem Ar(b:d=0\/d=3\/d=5):errC n d fr m fi=if inS n.bl fr m then 0 else 10:=by
 unfold errC;rw[if_neg oM,if_neg oM,if_pos oM]
theorem zeh(b:d=1\/d=2):errC n d fr m fi=if 1<=m/\m<=64 then(if inS n.bl fr m then 0 else 10)else 1:=by
 unfold errC;rw[if_neg oM];by_cases h:1<=m/\m<=64
 .rw [if_neg (fun e=>e.2 h),if_pos oM,if_pos h]
 .rw [if_pos ⟨b,h⟩,if_neg h]
theorem RD:errC n 9 fr m fi=if 0<=fr/\fr<=2 then 0 else 1:=rfl
theorem As:errC n 11 fr m fi=if(fr≠0/\fr≠1)\/(m<0\/64<m)\/0<m/\(fi<0\/2<fi)then 1 else 0:=by
 unfold errC;rw[if_neg oM,if_neg oM,if_neg oM,if_neg oM,if_neg oM];split
 .next h=>exact(if_pos h.2).symm
 .next h=>exact(if_neg (fun e=>h ⟨rfl,e⟩)).symm
end
theorem vz{P:Prop}(h:P:=by
 have HDd:=qqh hd;clear hd;obtain⟨b,hb⟩:=qqe (w.heap.size);obtain⟨kp,hkp⟩:=qqe (Value.slice ak nk ck);rw[<-hkp];obtain⟨w1,hw1⟩:=qqe ((w.alloc (.cells #[.int .i64 t0,.int .i64 t1,.int .i64 t2] 22)).alloc (.cells (opS d fr m fi kp).toArray 25));have hb1:Below w.heap.size w w1:=by rw[hw1];exact((qxl _ w).alloc (qXp _) _).alloc oe _
 have g0:w1.heap[b]?=some (.cells [.int .i64 t0,.int .i64 t1,.int .i64 t2].toArray 22 (0,0)):=by rw[hw1,hb];exact(qxk _ _ _ oe).trans (zc w _ rfl)
 have g1:w1.heap[b+1]?=some (.cells (opS d fr m fi kp).toArray 25 (0,0)):=by rw[hw1,hb];exact zc _ _ oe
 obtain⟨w2,hw2⟩:=qqe (w1.alloc (.cells (opS d fr m fi kp).toArray 25));have hb2:Below w1.heap.size w1 w2:=by rw[hw2];exact(qxl _ w1).alloc (qXp _) _
 have r0:=zf g0;have r1:=zf g1;have hsi:(prog.info? 22).map (·.size)=some [Value.int .i64 t0,.int .i64 t1,.int .i64 t2].length:=kR;have hso:(prog.info? 25).map (·.size)=some (opS d fr m fi kp).length:=wn;have hk1:kp.oneCell'=true:=by rw[hkp];rfl
 have HA:=qqh (fun W (hb:Below w.heap.size w W)=>zbJ W (nib.keep (uuo (S:=fun _=>False) hb) id) (tur.keep (uuo (S:=fun _=>False) hb) id));have HF:=qqh (zfA t0 t1 t2 (.slice (some ⟨w1.heap.size,0,none⟩) 1 1) [⟨d,fr,m,fi,kp⟩] w2 (by
  rw[hw2];exact Rd.fresh w1 (opS d fr m fi kp) 25 (k:=5) (m:=1) 1 rfl de) (fun o ho=>by
   simp only[qzt]at ho;subst ho;exact⟨ak,ck,by show kp=Value.slice ak (kpN kp) ck;rw[hkp];rfl⟩))
 have H:=Y9 hw1 hb hb1 hw2 hb2 nib tur hkp hk1;have G1:=Y2 g0 g1;clear hw1 hb hb1 hw2 hb2 nib tur hkp hk1 g0 g1;go_enter func3,ntmps3
 go_upto_region 1 with fail
 rw[<-H.o.1,<-H.o.2.1];go_wp2_with (first
  |(refine qZa rfl _ _ rfl _ _ rfl _ _ r0 underlying22 rfl hsi ?_)
  |(refine qZa rfl _ _ rfl _ _ rfl _ _ r1 underlying25 rfl hso ?_)
  |fail)
 rw[<-H.o.2.2.2.1];refine HF.o.mono ?_;rintro e w3 ⟨r,rfl,hr,hb3⟩;have hb03:Below w.heap.size w w3:=H.o.2.2.1.trans ((H.o.2.2.2.2.1.trans (hb3.mono H.o.2.2.2.2.1.size)).mono H.o.2.2.1.size);have hb13:Below w1.heap.size w1 w3:=H.o.2.2.2.2.1.trans (hb3.mono H.o.2.2.2.2.1.size);cases r with
 |false=>
  have HB:=qqh hb03;clear hr hb3 hb03 hb13 r0 r1 HF G1;go_wp2_with fail
  refine(HA.o w3 HB.o).mono ?_;rintro e w4 ⟨rfl,hb4⟩;have HC:=qqh (HB.o.trans (hb4.mono HB.o.size));clear hb4;go_wp2
  go_ret
  exact⟨rfl,HC.o⟩
 |true=>
  obtain⟨-,⟨x1,x2⟩,⟨x3,x4⟩,⟨x5,x6⟩,-⟩:=hr.1 rfl;obtain⟨bl,rfl⟩:∃b:Nat,t0=(b:Int):=⟨t0.toNat,oM⟩
  obtain⟨sl,rfl⟩:∃b:Nat,t1=(b:Int):=⟨t1.toNat,oM⟩
  obtain⟨j,rfl⟩:∃b:Nat,t2=(b:Int):=⟨t2.toNat,oM⟩
  have hu3:=uuo (S:=fun _=>False) hb03;have hmd:=EX bl sl j oM oM oM oM oM oM w3 (H.o.2.2.2.2.2.1.keep hu3 id) (H.o.2.2.2.2.2.2.1.keep hu3 id);have hok:=VY bl sl j oM oM oM oM oM oM;obtain⟨n,hn⟩:=qqe (smN bl sl j);have hmay:mayS n.I=true:=by rw[hn];exact CaN.may hok (by show 7<=_;decide)
  have hnb:n.bl=bl:=by rw[hn];rfl
  have hn1:n.bl<=12/\4<=n.jo/\2<=n.sl/\3+12*n.B0+n.jo<=40000:=by rw[hn];show bl<=12/\4<=j/\2<=sl/\3+12*(3*((sl-1)/4+1)+j+6)+j<=40000;omega
  rw[<-hn]at hmd;have HN:=Y3 hn1 hmay hnb;have hbl12:bl<=12:=oM;have HM:=qqh hmd;have HB:=Y2 hb03 (hb13.block _ (zd G1.out.1));have r03:=Below.range hb13 r0;have HG:=Y2 ((hb13.block _ (zd G1.out.1)).trans G1.out.1) ((hb13.block _ (zd G1.out.2)).trans G1.out.2);clear hr hb3 hb03 hb13 r0 r1 HF x1 x2 x3 x4 x5 x6 hu3 hmd hok hn hmay hnb hn1;go_wp2_with (first
   |(refine qZa rfl _ _ rfl _ _ rfl _ _ r03 underlying22 rfl hsi ?_)
   |fail)
  refine HM.o.mono ?_;rintro e w4 ⟨own,r,v,q,p,rfl,hR,hb4,ho4,hr4,hv4,lg4⟩;have H4:=Y6 hR hb4 ho4 hr4 hv4 lg4;clear hR hb4 ho4 hr4 hv4 lg4 HM r03;go_wp2_with fail
  refine(Ag (w:=w4)).mono ?_;rintro e w' ⟨rfl,hw⟩;rw[hw];clear hw;go_wp2_with fail
  refine(zbP w4).mono ?_;rintro e w5 ⟨rfl,hb5⟩;have hu5:=uuo (S:=fun _=>False) hb5;have g5:=hu5.jV ((H4.o.2.1.block _ (zd HG.o.2)).trans HG.o.2);have r5:=zf g5;have H5:=qqh hu5;clear hb5 hu5 g5;go_wp2_with (first
   |(refine qZa rfl _ _ rfl _ _ rfl _ _ r5 underlying25 rfl hso ?_)
   |fail)
  have hfa:∀W:World,(Instr.field 45 (.agg #[.int .i64 2,.int .i64 0,.slice none 0 0]) 0).run prog W=.ok (.int .i64 2) W:=fun W=>kR;refine(zec (w:=w5)).mono ?_;rintro e w6 ⟨rfl,hb6⟩;have hu6:=uuo (S:=fun _=>False) hb6;have r6:=hu6.range r5 id;have H6:=qqh hu6;clear hb6 hu6;go_wp2_with fail
  refine(zbN (w:=w6)).mono ?_;rintro e w' ⟨rfl,hw⟩;rw[hw];clear hw hfa;go_upto_region 11 with fail
  obtain⟨B,hB⟩:=qqe (w3.heap.size);have hu46:=H5.o.trans H6.o;have hNew:NewB B own w6 r v q:=by
   rw[hB];exact⟨H4.o.2.2.1,H4.o.2.2.2.1,H4.o.2.2.2.2.1.1,H4.o.2.2.2.2.1.2.2,qXr H4.o.2.1.size hu46.size⟩
  have hdo:=zeg (d:=d) (fr:=fr) (m:=m) (fi:=fi) (ak:=ak) (nk:=nk) (ck:=ck) hNew (H4.o.1.new hu46) (H4.o.2.2.2.2.2.new hu46) HN.o.1.1 HN.o.1.2.1 HN.o.1.2.2.1 HN.o.2.1 HN.o.1.2.2.2;rw[<-H.o.2.2.2.2.2.2.2.1]at hdo;obtain⟨cd,hcd⟩:=qqe (errC n d fr m fi);rw[<-hcd]at hdo;have HD:=qqh (show Calls prog 10 #[ptr r,.agg (opS d fr m fi kp).toArray] w6 (tQ B w6 cd)from hdo);have HU:=Y3 hB hcd hu46;clear hB hNew hdo hcd hu46 r5;go_wp2_with (first
   |(refine qZa rfl _ _ rfl _ _ rfl _ _ r6 underlying25 rfl hso ?_)
   |fail)
  refine HD.o.mono ?_;rintro e w7 ⟨nn,ao,k,c,rfl,hb7⟩;obtain⟨ab,hab⟩:=qqe (w7.heap.size);obtain⟨w8,hw8⟩:=qqe (w7.alloc (.cells #[.int .i64 cd,.int .i64 nn,.slice ao k c] 45));have hu8:=qqu hw8;have ga8:w8.heap[ab]?=some (.cells #[.int .i64 cd,.int .i64 nn,.slice ao k c] 45 (0,0)):=by rw[hw8,hab];exact zc w7 _ rfl
  have hz8:w8.heap.size=ab+1:=by rw[hw8,hab];simp
  have hB3:=HU.o.1;have g07:w7.heap[b]?=_:=(hb7.block _ (by have:=zd HG.o.1;omega)).trans (HU.o.2.2.jV ((H4.o.2.1.block _ (zd HG.o.1)).trans HG.o.1));have g17:w7.heap[b+1]?=_:=(hb7.block _ (by have:=zd HG.o.2;omega)).trans (HU.o.2.2.jV ((H4.o.2.1.block _ (zd HG.o.2)).trans HG.o.2));have g08:=hu8.jV g07;have g18:=hu8.jV g17;have e1:w8.cell? ⟨b+1,1,none⟩=some (.int .i64 fr):=za g18 1;have e2:w8.cell? ⟨b+1,2,none⟩=some (.int .i64 m):=za g18 2;have hb37:Below w3.heap.size w6 w7:=by rw[<-hB3];exact hb7
  have hb07:Below w.heap.size w w7:=HB.o.1.trans (((H4.o.2.1.trans ((Upd.below HU.o.2.2).mono H4.o.2.1.size)).trans hb37).mono HB.o.1.size);have HW8:=Y8 hw8 hab hu8 ga8 g08 g18 hz8 hb07;clear hb7 hb37 hw8 hab hu8 ga8 hz8 hB3 g07 g17 g08 g18 hb07 r6 HD;go_upto_region 12 with fail
  rw[<-HW8.o.1,<-HW8.o.2.1];obtain⟨sb,hsb⟩:=qqe (ab+1);obtain⟨w9,hw9⟩:=qqe (w8.alloc (.cells #[.int .i64 fr,.int .i64 m] 50));have hu9:=qqu hw9;have gs9:w9.heap[sb]?=some (.cells #[.int .i64 fr,.int .i64 m] 50 (0,0)):=by rw[hw9,hsb];exact zc w8 _ HW8.o.2.2.2.2.2.2.1.symm
  have HS9:=Y3 hw9 (show w8.heap.size=sb by rw[hsb];exact HW8.o.2.2.2.2.2.2.1) hu9;have G9:=Y2 (hu9.jV HW8.o.2.2.2.2.1) (hu9.jV HW8.o.2.2.2.2.2.1);have c0:w9.cell? ⟨b,0,none⟩=some (.int .i64 (bl:Int)):=za G9.out.1 0;have s0:w9.cell? ⟨sb,0,none⟩=some (.int .i64 fr):=za gs9 0;have s1:w9.cell? ⟨sb,1,none⟩=some (.int .i64 m):=za gs9 1;have k0:w9.cell? ⟨ab,0,none⟩=some (.int .i64 cd):=za (hu9.jV HW8.o.2.2.2.1) 0;have HB9:=qqh (zj HW8.o.2.2.2.2.2.2.2 (HW8.o.2.2.1.trans hu9) (qXp _) (fun _ h=>h.elim));clear hsb hw9 hu9 gs9;go_upto_region 13 with fail
  rw[HS9.o.2.1,<-HS9.o.1];clear e1 e2;obtain⟨tb,htb⟩:∃tb:Bool,tb=decide (inS n.bl fr m):=⟨_,rfl⟩
  have HT:=qqh htb;clear htb
  go_cut [13] (fun s13 wx=>s13=.bool tb/\wx=w9)
  case first=>
   have hnb:=HN.o.2.2;have q4:IntKind.i64.wrap ((bl:Int)-m)=(bl:Int)-m\/¬(1<=m/\m<=(bl:Int)):=by
    by_cases hx:1<=m/\m<=(bl:Int)
    .exact .inl (qxt _ oM)
    .exact .inr hx
   have hc:Hid (tb=true)/\fr>=0/\m>=1/\m<=(bl:Int)/\IntKind.i64.wrap ((bl:Int)-m)=(bl:Int)-m/\fr<=(bl:Int)-m\/Hid (tb=false)/\(¬fr>=0\/(fr>=0/\¬m>=1)\/(fr>=0/\m>=1/\¬m<=(bl:Int))\/fr>=0/\m>=1/\m<=(bl:Int)/\IntKind.i64.wrap ((bl:Int)-m)=(bl:Int)-m/\¬fr<=(bl:Int)-m):=by
    by_cases hs:inS n.bl fr m
    .refine .inl ⟨HT.o.trans (qYs hs),?_⟩;obtain⟨h1,h2,h3,h4⟩:=hs;rw[hnb]at h3 h4;exact⟨h1,h2,oM,q4.resolve_right (fun e=>e ⟨h2,oM⟩),oM⟩
    .refine .inr ⟨HT.o.trans (decide_eq_false hs),?_⟩;by_cases h1:fr>=0
     .by_cases h2:m>=1
      .by_cases h3:m<=(bl:Int)
       .refine .inr (.inr (.inr ⟨h1,h2,h3,q4.resolve_right (fun e=>e ⟨h2,h3⟩),fun h4=>hs ?_⟩));rw[hnb];exact⟨h1,h2,oM,oM⟩
       .exact .inr (.inr (.inl ⟨h1,h2,h3⟩))
      .exact .inr (.inl ⟨h1,h2⟩)
     .exact .inl h1
   clear q4 hnb;rcases hc with⟨ht,h1,h2,h3,h4,h5⟩|⟨ht,h1|⟨h1,h2⟩|⟨h1,h2,h3⟩|⟨h1,h2,h3,h4,h5⟩⟩
   all_goals
    go_wp2_with fail
    go_meet
    case rel=>exact⟨by rw[ht.out],rfl⟩
  case rest=>
   obtain⟨rfl,hwc⟩:=hcut;rw[hwc];clear hwc s0 s1 c0;have f0:w9.cell? ⟨b+1,0,none⟩=some (.int .i64 d):=za G9.out.2 0;have f1:w9.cell? ⟨b+1,1,none⟩=some (.int .i64 fr):=za G9.out.2 1;have f2:w9.cell? ⟨b+1,2,none⟩=some (.int .i64 m):=za G9.out.2 2;have f3:w9.cell? ⟨b+1,3,none⟩=some (.int .i64 fi):=za G9.out.2 3
   go_upto_block 0 with fail
   go_cut [14] (fun s14 wx=>s14=.int .i64 cd/\wx=w9)
   case first=>
    have hE:=HU.o.2.1;have hT:=HT.o;clear k0;have hc:((d=0\/d=3\/d=5)/\(Hid (cd=0)/\tb=true\/Hid (cd=10)/\tb=false))\/((d=1\/d=2)/\(Hid (cd=0)/\tb=true/\¬m<1/\¬m>64\/tb=false/\(Hid (cd=1)/\m<1\/Hid (cd=1)/\¬m<1/\m>64\/Hid (cd=10)/\¬m<1/\¬m>64)))\/(d=6/\Hid (cd=14))\/
      (d=9/\(Hid (cd=1)/\fr<0\/Hid (cd=1)/\¬fr<0/\fr>2\/Hid (cd=0)/\¬fr<0/\¬fr>2))\/
      (d=11/\(Hid (cd=1)/\(fr<0\/¬fr<0/\fr>1\/¬fr<0/\¬fr>1/\m<0\/¬fr<0/\¬fr>1/\¬m<0/\m>64\/¬fr<0/\¬fr>1/\¬m<0/\¬m>64/\m>0/\fi<0\/¬fr<0/\¬fr>1/\¬m<0/\¬m>64/\m>0/\¬fi<0/\fi>2)\/Hid (cd=0)/\(¬fr<0/\¬fr>1/\¬m<0/\¬m>64/\¬m>0\/¬fr<0/\¬fr>1/\¬m<0/\¬m>64/\m>0/\¬fi<0/\¬fi>2)))\/
      ((d=4\/d=7\/d=8\/d=10\/d=12)/\Hid (cd=0))\/(Hid (cd=1)/\(d==0)=false/\(d==3)=false/\(d==5)=false/\(d==1)=false/\(d==2)=false/\(d==6)=false/\(d==9)=false/\(d==11)=false/\(d==4)=false/\(d==7)=false/\(d==8)=false/\(d==10)=false/\(d==12)=false/\Hid (d≠0/\d≠3/\d≠5/\d≠1/\d≠2/\d≠6/\d≠9/\d≠11)):=by
     have hb12:(n.bl:Int)<=12:=by have:=HN.o.1.1;omega
     have hin:tb=true->1<=m/\m<=12:=fun e=>by
      rw[hT,qYt]at e;obtain⟨-,h2,h3,-⟩:=e;exact⟨h2,oM⟩
     have hi:(if inS n.bl fr m then(0:Int)else 10)=if tb=true then 0 else 10:=by rw[hT];simp
     by_cases d1:d=0\/d=3\/d=5
     .rw [Ar d1,hi]at hE;cases tb with
      |true=>exact .inl ⟨d1,.inl ⟨hE,rfl⟩⟩
      |false=>exact .inl ⟨d1,.inr ⟨hE,rfl⟩⟩
     by_cases d2:d=1\/d=2
     .rw [zeh d2,hi]at hE;refine .inr (.inl ⟨d2,?_⟩);cases tb with
      |true=>
       have:=hin rfl;rw[if_pos oM]at hE;exact .inl ⟨hE,rfl,oM,oM⟩
      |false=>
       refine .inr ⟨rfl,?_⟩;by_cases m1:m<1
       .rw [if_neg oM]at hE;exact .inl ⟨hE,m1⟩
       by_cases m2:m>64
       .rw [if_neg oM]at hE;exact .inr (.inl ⟨hE,m1,m2⟩)
       .rw [if_pos oM]at hE;exact .inr (.inr ⟨hE,m1,m2⟩)
     by_cases d3:d=6
     .subst d3;exact .inr (.inr (.inl ⟨rfl,hE⟩))
     by_cases d4:d=9
     .subst d4;rw[RD]at hE;refine .inr (.inr (.inr (.inl ⟨rfl,?_⟩)));by_cases m1:fr<0
      .rw [if_neg oM]at hE;exact .inl ⟨hE,m1⟩
      by_cases m2:fr>2
      .rw [if_neg oM]at hE;exact .inr (.inl ⟨hE,m1,m2⟩)
      .rw [if_pos oM]at hE;exact .inr (.inr ⟨hE,m1,m2⟩)
     by_cases d5:d=11
     .subst d5;rw[As]at hE;refine .inr (.inr (.inr (.inr (.inl ⟨rfl,?_⟩))));by_cases hx:(fr≠0/\fr≠1)\/(m<0\/64<m)\/0<m/\(fi<0\/2<fi)
      .rw [if_pos hx]at hE;exact .inl ⟨hE,oM⟩
      .rw [if_neg hx]at hE;exact .inr ⟨hE,oM⟩
     by_cases d6:d=4\/d=7\/d=8\/d=10\/d=12
     .refine .inr (.inr (.inr (.inr (.inr (.inl ⟨d6,hE.trans ?_⟩)))));rcases d6 with rfl|rfl|rfl|rfl|rfl<;>rfl
     .refine .inr (.inr (.inr (.inr (.inr (.inr ⟨hE.trans (by unfold errC;exact if_pos oM),?_⟩)))));exact⟨by simp;omega,by simp;omega,by simp;omega,by simp;omega,by simp;omega,by simp;omega,by simp;omega,by simp;omega,by simp;omega,by simp;omega,by simp;omega,by simp;omega,by simp;omega,by show _/\_;omega⟩
    clear hE hT;rcases hc with⟨rfl|rfl|rfl,⟨hc,rfl⟩|⟨hc,rfl⟩⟩|⟨rfl|rfl,⟨hc,rfl,h1,h2⟩|⟨rfl,⟨hc,h1⟩|⟨hc,h1,h2⟩|⟨hc,h1,h2⟩⟩⟩|⟨rfl,hc⟩|⟨rfl,⟨hc,h1⟩|⟨hc,h1,h2⟩|⟨hc,h1,h2⟩⟩|
     ⟨rfl,⟨hc,h1|⟨h1,h2⟩|⟨h1,h2,h3⟩|⟨h1,h2,h3,h4⟩|⟨h1,h2,h3,h4,h5,h6⟩|⟨h1,h2,h3,h4,h5,h6,h7⟩⟩|⟨hc,⟨h1,h2,h3,h4,h5⟩|⟨h1,h2,h3,h4,h5,h6,h7⟩⟩⟩|⟨rfl|rfl|rfl|rfl|rfl,hc⟩|⟨hc,h1,h2,h3,h4,h5,h6,h7,h8,h9,h10,h11,h12,h13,h14⟩
    all_goals first
     |(exfalso;have hx:=HDd.out;first|omega|(have hy:=h14.out;omega))
     |(go_wp2_with fail;go_meet;case rel=>exact⟨by rw[hc.out],rfl⟩)
   case rest=>
    obtain⟨rfl,hwc⟩:=hcut;rw[hwc];clear hwc f0 f1 f2 f3;go_wp2_with fail
    refine(HA.o w9 HB9.o).mono ?_;rintro e w10 ⟨rfl,hb10⟩;have HC:=qqh (HB9.o.trans (hb10.mono HB9.o.size));clear hb10;go_wp2
    go_ret
    exact⟨rfl,HC.o⟩):P:=h
end Go.Proofs.YtbnpkobbnjihjaaGreatDoor
