/- A cache: put. -/
import Derived.Test.YtfhfbpmlnjdfoaaGreatDoorG22
set_option maxRecDepth 100000
set_option maxHeartbeats 4000000
namespace Go.Proofs.YtfhfbpmlnjdfoaaGreatDoor
open Go Go.RowKit Tryz
theorem run_eql_place(w:World)(a c:Int)(b d:Bool):(binOp .eql 95 (.agg #[.int .i64 a,.bool b]) (.agg #[.int .i64 c,.bool d])).run prog w=.ok (.bool (a==c&&b==d)) w:=by
 simp only[binOp];simp[show Op.equal 95 (.agg #[.int .i64 a,.bool b]) (.agg #[.int .i64 c,.bool d])=Op.equalIn (9998+1+1) 95 (.agg #[.int .i64 a,.bool b]) (.agg #[.int .i64 c,.bool d])from rfl,vc w 9998 a c b d]
def CaS.given(n:CaN)(a:CaS)(k:Int)(s sum:Nat)(d:Bool):CaS:={a.noted n 0 k s d sum with iN:=a.iN+1,ps:=putL a.ps n.sl k s d,st:=turnList a.st s 2,mN:=a.mN+1,sums:=upd1 a.sums k (some sum)}
def CaS.kw(n:CaN)(a:CaS)(k:Int)(s sum:Nat)(d:Bool):CaS×Int:=
 if(uD a.ps n.sl k s).1= -1/\(uD a.ps n.sl k s).2=false then({a.given n k s sum d with kN:=a.kN+1,K:=sB n.sl a.K k,A:=Ta n.sl a.K a.A a.H k,H:=Tb n.sl a.K a.H k},addC n.sl a.K k)
 else({a.given n k s sum d with st:=turnList (turnList a.st s 2) (uD a.ps n.sl k s).1 3,kN:=a.kN+1,A:=agA a.A a.K k},touchC a.K k)
theorem Ui{own:Nat->Nat}{w:World}{c:Nat}{n:CaN}{p:CaP}{a:CaS}(h:CaAt own w c n p a)(k:Int)(s sum:Nat)(d:Bool)(hroom:a.next<=a.cov+n.jo)(hmx:a.next<=1099511627776)(hmay:mayR (jaddX a.next n.jo 0 k s d sum)=true)
  (hput:putC a.ps n.sl k s=0) (hN:a.iN<maxLen) (hsum:sum<9223372036854775808) (hM:a.mN<maxLen) (hkN:a.kN<maxLen):
  Calls prog 297 #[ptr c,.int .i64 k,.int .i64 (s:Int),.int .i64 (sum:Int),.bool d] w (zv own w c n p (a.kw n k s sum d).1 (.int .i64 (a.kw n k s sum d).2)):=by
 obtain⟨w1,hw1⟩:=qqe (w.alloc (.cells (recC 0 0 0 k s d sum).toArray 101));have hu1:=qqu hw1;have hg1:=qqg hw1;obtain⟨m,hm⟩:=qqe (w.heap.size);have hm0:own m=0:=h.far _ oM;rw[<-hm]at hg1;have h1:=h.new hu1;obtain⟨-,-,-,d3,-,-,-,-,-⟩:=h1.cells;have r1:=zh hg1;have hud:=((uur (fun _=>False) w1).drew)
 have HJ:=qqh (ZT (h1.new hud) hroom hmx 0 0 0 k s d sum hmay);have H:=Y6 hm0 ((h.ki hu1).trans (h1.ki hud)) hput hN hsum hM;have HM:=qqh hm;have HW1:=qqh hw1;have hk:0<=k/\k<4096:=by
  have e1:=h.pl;have e2:=h.ok.b2;unfold putC at hput;split at hput
  .cases hput
  .omega
 have HK:=qqh hk;replace hkN:=qqh hkN;have hut:=underlying101;have hsi:=infoThR;clear hk h hroom hmx hmay hput hN hsum hM hu1 hg1 h1 hm0 hm hw1 hud;go_enter func297,ntmps297
 go_upto_region 2 with fail
 rw[<-HM.o,show w.alloc (.cells #[.int .i64 0,.int .i64 0,.int .i64 0,.int .i64 k,.int .i64 (s:Int),.bool d,.int .i64 (sum:Int)] 101)=w1 from HW1.o.symm];refine qZj (S:=fun W=>W.cell? ⟨c,17,none⟩=some (ptr p.jr)/\W.rangeAt m 0 (recC 0 0 0 k s d sum)) kR (by(simp only[qYo,qYq]);exact⟨d3,r1⟩) (fun hHeld=>?_);refine Wl.i [0,1,2,3] ?_;iterate 4 refine Wl.t hHeld ?_
 refine Wl.o ?_;refine Wl.l 4 (fun w h=>h.2) hut hsi hHeld ?_;refine Wl.r 5 (fun K hK=>?_);go_simp
 skip
 refine HJ.o.mono ?_;rintro e w2 ⟨rfl,own2,h2,hd2⟩;obtain⟨-,-,-,i3,i4,-,-,-,-⟩:=h2.cells;have r2:=hd2.upd.range (show w1.drew.rangeAt m 0 (recC 0 0 0 k s d sum) by rw[qYq];exact r1) (fun h=>h.1 H.o.1);have HP:=qqh (Rr h2 k s d H.o.2.2.2.1);have H2:=qqh (H.o.2.1.trans hd2);clear h2 hd2;refine hK.o _ _ (⟨i3,r2⟩) (fun hH1=>?_);clear hK K;refine Wl.i [6,7,8] ?_;iterate 3 refine Wl.t hH1 ?_
 refine Wl.o ?_;refine Wl.r 9 (fun K hK=>?_);go_simp
 refine hK.o _ _ (hH1) (fun hH2=>?_);clear hK K;refine Wl.r 10 (fun K hK=>?_);go_simp
 refine hK.o _ _ (hH2) (fun hH3=>?_);clear hK K;refine Wl.d ?_;have hp:=H.o.2.2.1;clear hHeld hH1 hH2 hH3 i3 r1 r2 d3 HJ hut hsi;go_wp2_with fail
 refine HP.o.mono ?_;rw[hp];rintro e w3 ⟨rfl,own3,h3,hd3⟩;obtain⟨ps,hps⟩:=qqe (uD a.ps n.sl k s);rw[<-hps];obtain⟨os,od⟩:=ps;have hua:Upd (fun _=>False) w3 (w3.alloc (.cells #[.int .i64 os,.bool od] 95)):=(uur _ _).alloc _;have h3a:=h3.new hua;have HT:=qqh (xg h3a s 2);obtain⟨-,-,-,-,-,j5,-,-,-⟩:=h3a.cells;have H3:=Y2 ((H2.o.trans hd3).trans (h3.ki hua)) (h3.far _ (qXv _));clear h3 hd3 hua h3a HP i4;go_wp2_with fail
 refine HT.o.mono ?_;rintro e w4 ⟨rfl,own4,h4,hd4⟩;obtain⟨w5,own5,hrun,h5,hd5⟩:=Xn h4 (x:=k) (by have:=HK.o;omega) (by have:=HK.o;omega) sum H.o.2.2.2.2.1 H.o.2.2.2.2.2;obtain⟨-,-,-,-,-,-,-,-,f8⟩:=h4.cells;obtain⟨-,-,-,-,-,g5,-,g7,-⟩:=h5.cells;have rB:=(hd4.trans hd5).upd.range (zh (zc w3 (.cells #[.int .i64 os,.bool od] 95) rfl)) (fun h=>h.1 H3.o.2);have H5:=Y2 h5 (H3.o.1.trans (hd4.trans hd5));clear h4 hd4 h5 hd5 HT j5;replace H5:Hid (CaAt own5 w5 c n p (a.given n k s sum d)/\Did own own5 w w5):=H5;have hR:a.kw n k s sum d=a.kw n k s sum d:=rfl
 conv at hR=>rhs;unfold CaS.kw
 rw[<-hps]at hR;simp only at hR;by_cases ho:os= -1/\od=false
 .rw [if_pos ho]at hR;have HR:=qqh hR;clear hR;obtain⟨rfl,rfl⟩:=ho;have HA:=qqh (VZ H5.o.1 k (by have:=HK.o;unfold InR;omega) hkN.out);go_wp2_with (first
   |(refine qZg rfl _ _ rfl _ _ rfl _ _ rB underlying95 rfl kR ?_)
   |fail)
  refine HA.o.mono ?_;rintro e w6 ⟨rfl,own6,h6,hd6⟩;have H6:=Y2 h6 (H5.o.2.trans hd6);clear h6 hd6 HA g5 g7 f8 hrun rB;go_wp2
  go_ret
  rw[HR.o];exact⟨rfl,own6,H6.o.1,H6.o.2⟩
 .rw [if_neg ho]at hR;have HR:=qqh hR;clear hR;have hq:(os== -1&&od==false)=false:=by
   rw[Bool.and_eq_false_iff];by_cases h1:os= -1
   .right;simpa using fun h2=>ho ⟨h1,h2⟩
   .left;simpa using h1
  have hel:∀W:World,(binOp .eql 95 (.agg #[.int .i64 os,.bool od]) (.agg #[.int .i64 (-1),.bool false])).run prog W=.ok (.bool false) W:=by
   intro W;rw[run_eql_place,hq]
  have cB:w5.cell? ⟨w3.heap.size,0,none⟩=some (.int .i64 os):=rB 0 _ rfl;clear hq ho;go_wp2_with (first
   |(refine qZg rfl _ _ rfl _ _ rfl _ _ rB underlying95 rfl kR ?_)
   |fail)
  clear rB hel hrun f8;have HT2:=qqh (xg (H5.o.1.new ((uur (fun _=>False) w5).drew)) os 3);replace H5:=qqh H5.o.2.drew
  go_still_tail 6,kR
  change wpList _ _ _ _ _ w5.drew
  generalize w5.drew=w5d at*;go_wp2_with fail
  refine HT2.o.mono ?_;rintro e w6 ⟨rfl,own6,h6,hd6⟩;obtain⟨-,-,-,-,-,-,-,k7,-⟩:=h6.cells;have HC:=qqh (Tp h6 k hkN.out);have H6:=qqh (H5.o.trans hd6);clear h6 hd6 HT2 g5 g7 cB;go_wp2_with fail
  refine HC.o.mono ?_;rintro e w7 ⟨rfl,own7,h7,hd7⟩;have H7:=Y2 h7 (H6.o.trans hd7);clear h7 hd7 HC k7;go_wp2
  go_ret
  rw[HR.o];exact⟨rfl,own7,H7.o.1,H7.o.2⟩
theorem zv.from{own0 own:Nat->Nat}{w0 w:World}{c:Nat}{n:CaN}{p:CaP}{a:CaS}{v:Value}{f:FuncId}{args:Array Value}(h:Did own0 own w0 w)(hc:Calls prog f args w (zv own w c n p a v)):Calls prog f args w (zv own0 w0 c n p a v):=
 hc.mono fun _ _ ⟨he,own',h',hd⟩=>⟨he,own',h',h.trans hd⟩
structure CaS.Fit(a:CaS)(N:Nat):Prop where
 sm:∀k v,a.sums k=some v->v<=4294967295
 w1:∀q∈a.W,1<=q.1
 nx:a.next<=N
 iN:a.iN<=N
 kN:a.kN<=N
 mN:a.mN<=N
 dO:a.dO.length<=N
 bO:a.bO.length<=N
theorem CaS.Fit.mono{a:CaS}{N M:Nat}(h:a.Fit N)(hM:N<=M):a.Fit M:=
 ⟨h.sm,h.w1,qXx h.nx hM,qXx h.iN hM,qXx h.kN hM,qXx h.mN hM,qXx h.dO hM,qXx h.bO hM⟩
theorem CaS.Fit.fb{a:CaS}{N:Nat}(h:a.Fit N):a.fb.Fit N:={h with bO:=qXx (xY _ _ _) h.bO}
theorem CaS.Fit.fd{a:CaS}{N:Nat}(h:a.Fit N):a.fd.Fit N:={h with dO:=qXx (xY _ _ _) h.dO}
theorem Es(F:List Bk)(O:List (Nat×Bk))(P:List Int)(L:List (Nat×Bk)):(saveR F O P L).O.length<=O.length+L.length:=by
 have h:=QD F L O P;unfold saveR;split
 .exact qXx (xY _ _ _) h
 .exact h
theorem CaS.svR_O(n:CaN)(a:CaS):(a.svR n).O.length<=a.dO.length+n.pa:=by
 have:=Es a.dF a.dO a.dP (ckO (1+(1-a.which)*n.pa) n.pa (pagesB (a.next-1) (a.ents n)))
 rwa[Jq]at this
theorem CaS.Fit.ckpt{n:CaN}{a:CaS}{N:Nat}(h:a.Fit N):(a.ckpt n).1.Fit (N+n.pa):=by
 have h1:=h.fb;have h2:=h1.fd;have h3:=a.fb.fd.svR_O n;have h4:=h2.dO;unfold CaS.ckpt;split
 .exact h1.mono (qXu _ _)
 split
 .exact h2.mono (qXu _ _)
 split
 .exact {h2.mono (qXu N n.pa)with dO:=by show(a.fb.fd.svR n).O.length<=_;omega}
 .exact {h2.mono (qXu N n.pa)with dO:=(by show(a.fb.fd.svR n).O.length<=_;omega),w1:=fun q hq=>by cases hq}
def CaS.j8(n:CaN)(a:CaS):CaS×Int:=if a.next+1<=a.cov+n.jo then(a,0)else a.ckpt n
theorem CaS.Fit.j8{n:CaN}{a:CaS}{N:Nat}(h:a.Fit N):(a.j8 n).1.Fit (N+n.pa):=by
 unfold CaS.j8;split
 .exact h.mono (qXu _ _)
 .exact h.ckpt
section
variable{own:Nat->Nat}{w w':World}{c:Nat}{n:CaN}{p:CaP}{a:CaS}{N:Nat}
theorem vA(h:CaAt own w c n p a)(hf:a.Fit N)(hN:N<=50000):
  Calls prog 164 #[ptr c] w (zv own w c n p (a.j8 n).1 (.int .i64 (a.j8 n).2)):=by
 by_cases hr:a.next+1<=a.cov+n.jo
 .unfold CaS.j8;rw[if_pos hr];exact XC h hr
 have HB:=qqh (Xl h);obtain⟨-,-,-,d3,-,-,-,-,-⟩:=h.cells;have q0:decide ((n.jo:Int)-((a.next:Int)-1-(a.cov:Int))>=2)=false:=by simp;omega
 have q1:¬(2:Int)<=(n.jo:Int)-((a.next:Int)-1-(a.cov:Int)):=oM;have HF:=qqh hf;unfold CaS.j8;rw[if_neg hr];clear h hr hf;go_enter func164,ntmps164
 go_wp2_with fail
 refine HB.o.mono ?_;rintro e w1 ⟨rfl,own1,h1,hd1⟩;have HC:=qqh (zv.from hd1 (ZY h1 HF.o.sm (by have:=HF.o.dO;omega)));clear h1 hd1 HB d3;generalize (n.jo:Int)-((a.next:Int)-1-(a.cov:Int))=r at*;go_wp2_with fail
 refine HC.o.mono ?_;rintro e w2 ⟨rfl,H2⟩;replace H2:=qqh H2;go_wp2
 go_ret
 exact⟨rfl,H2.o⟩
end
theorem vh{next jo s sum:Nat}{k:Int}(d:Bool)(h1:1<=next)(h2:next<=1099511627776)(_hjo:1<=jo)(hk:0<=k/\k<4096)(hs:s<1024)(hsum:sum<=4294967295):mayR (jaddX next jo 0 k s d sum)=true:=by
 have hl:(next-1)/jo<=next-1:=Nat.div_le_self _ _;unfold jaddX;generalize (next-1)/jo=lp at*;cases d
 all_goals simp[mayR,withinB,bndR,recX,inB,bitN]<;>omega
theorem tt{next jo:Nat}{k:Int}(h1:1<=next)(h2:next<=1099511627776)(_hjo:1<=jo)(hk:0<=k/\k<4096):mayR (jaddX next jo 1 k 0 false 0)=true:=by
 have hl:(next-1)/jo<=next-1:=Nat.div_le_self _ _;unfold jaddX;generalize (next-1)/jo=lp at*;simp[mayR,withinB,bndR,recX,inB,bitN]<;>omega
open Go Go.RowKit Go.Shelf Tryz
attribute [local go_sem] qYh
abbrev It7:=Int×Bool
abbrev zaA(x:It7):Array Value:= #[.int .i64 x.1,.bool x.2]
def kaL(K:List Int)(A:Int->Bool):List It7:=K.map fun k=>(k,A k)
theorem qo(K:List Int)(A:Int->Bool):(kaL K A).length=K.length:=by simp[kaL]
theorem RY(K:List Int)(A:Int->Bool){k:Nat}(h:k<K.length):(kaL K A).take (k+1)=(kaL K A).take k++[(K[k],A K[k])]:=by
 rw[qXq (by rw[qo];exact h)];simp[kaL]
theorem XD{β:Type}{B:Nat}{J:β->World->Prop}(hJ:AbidesFrom B J){s:β}{W W':World}(h:J s W)(hu:Upd (fun _=>False) W W'):J s W':=
 hJ s W W' none h ⟨hu.os,hu.tape,hu.output,hu.size,fun k hk _=>hu.block k hk id⟩ (fun r e=>by cases e)
theorem zcG(n:Nat)(hn:2<=n)(S:Nat->Prop)(l Bs Bm mb N:Nat)(K:List Int)(A:Int->Bool)(v:Value)
  (hle:K.length<=4096) (hr:∀x∈K,InR x) (hv:∀g,v.ownBlock=some g->¬S g) (hBm:¬S Bm) (hmb:¬S mb) (J Jx:List It7->World->Prop) (B0:Nat) (hJ:AbidesFrom B0 J)
  (hY:∀pre (x:It7) W,J pre W->pre.length<K.length->YieldAt Fence.wide (n-1) prog l (zaA x) W fun e W'=>
   (e=.returned (.bool true)/\J (pre++[x]) W'/\Upd S W W')\/(e=.returned (.bool false)/\Jx (pre++[x]) W'))
  (W:World) (hBs:W.cell? ⟨Bs,0,none⟩=some v) (hcm:W.cell? ⟨Bm,0,none⟩=some (.map (some mb))) (hs:Sl W 3 1 v K.length (ints K)) (ha:SetAt W mb N A) (h0:J [] W):
  CallsIn Fence.wide n prog 300 #[.func (.yield l) #[] #[],.pointer (some ⟨Bs,0,none⟩),.pointer (some ⟨Bm,0,none⟩)] W fun e W'=>(∃v,e=.returned v)/\
   ((∃ys,ys=kaL K A/\J ys W')\/(∃pre,pre<+:kaL K A/\Jx pre W')):=by
 have HS:=qqh hs;have HA:=qqh ha;have HV:=qqh hv;have HR:=qqh hr;have hBmW:=(zN hcm).2;obtain⟨ao,c,rfl⟩:=hs.rd.j7;clear hs ha hv hr;refine callsIn_of_wp func300 rfl trivial ?_ rfl;simp only[ntmps300,qXm,qze,qzh,Nat.reduceAdd,Nat.reduceSub,qxi,qxj,qXg,qxz,qzz,qya]
 gi_wp2
 gi_loopw [8] (fun i wr=>∃k:Nat,k<=K.length/\i=.int .i64 k/\J ((kaL K A).take k) wr/\Upd S W wr)
  (fun i _=>K.length-(intOf i).toNat)
 case atStart=>exact⟨0,qYf _,rfl,h0,uur _ _⟩
 case round=>
  obtain⟨k,hk,rfl,hJs,hnx⟩:=hrel;have hcm':wr.cell? ⟨Bm,0,none⟩=some (.map (some mb)):=(hnx.cellAt hBmW hBm).trans hcm;by_cases hlt:k<K.length
  .have hsr:=HS.o.keep hnx HV.o;obtain⟨gk,ok,ck,hvk,hgk,hck⟩:=hsr.rd.at oM;cases hvk;have hcell:=hck k _ (yt hlt);have HA2:=qqh (HA.o.keep hnx hmb);have HM:Hid ((kaL K A).take (k+1)=(kaL K A).take k++[(K[k],A K[k])]):=RY K A hlt;have HLT:Hid (((kaL K A).take k).length<K.length):=by show _<_;rw[qzk,qo];omega
   have hkr:InR K[k]:=HR.o _ (qyz hlt);obtain⟨x,hx⟩:=qqe (K[k]);rw[<-hx]at hcell HM hkr;clear hsr hck hgk hx
   gi_wp2_with fail
   refine⟨trivial,fun _=>oM,?_⟩;refine(callsIn_wide.2 (uy HA2.o x hkr)).mono ?_;rintro e w3 ⟨rfl,hb3⟩;have hu4:=qqb hb3;have HJ:=qqh (XD hJ hJs hu4);have HU:=qqh (hnx.trans (hu4.mono (S':=S) (fun _ _ h=>h.elim)));obtain⟨fn,tmps,assign,body,hy,hR⟩:=hY _ (x,A x) w3 HJ.o HLT.o;simp only[zaA]at hy;clear hb3 hu4
   gi_wp2
   refine⟨fun _=>oM,?_⟩;refine hR.mono ?_;rintro e W3 (⟨rfl,hJ3,hk3⟩|⟨rfl,hJx3⟩)
   .have HJ3:=qqh hJ3;have HU3:=qqh (HU.o.trans hk3);clear hJ3 hk3 hR
    gi_wp2
    go_roundw
    case rel=>exact⟨k+1,oM,oe,by rw[HM.o];exact HJ3.o,HU3.o⟩
    case measure=>simp[intOf];omega
   .clear hR
    gi_wp2
    refine qYw (qZc rfl _ _ _) rfl ?_;exact⟨⟨_,rfl⟩,.inr ⟨_,by rw[<-HM.o];exact List.take_prefix _ _,hJx3⟩⟩
  .obtain rfl:k=K.length:=oM;have HT:Hid ((kaL K A).take K.length=kaL K A):=qXp (by rw[qo];exact qXv _)
   gi_wp2
   go_end0
   exact⟨⟨_,rfl⟩,.inl ⟨_,rfl,by rw[<-HT.o];exact hJs⟩⟩
def zaB{α:Type}(enc:α->Array Value)(w:World)(gf:Nat)(lb:Array Value)(xs:List α):Prop:=
 (∀args w,(callFunc gf args).run prog w=.ok (.enter gf args) w)/\
 ∀(n:Nat),2<=n->∀(S:Nat->Prop),(∀j,S j->w.heap.size<=j)->∀w2,Below w.heap.size w w2->
  SeqStopsK Fence.wide n prog gf lb enc (Upd S) (fun ys=>ys=xs) (fun pre=>pre<+:xs) xs.length w2
theorem ym{W:World}{p:Nat}{v:Value}(h:∃u,W.cell? ⟨p,0,none⟩=some u):(W.setCell ⟨p,0,none⟩ v).cell? ⟨p,0,none⟩=some v:=by
 obtain⟨u,h⟩:=h;exact World.cell?_setCell_same W _ v h
theorem vj{W:World}{p q:Nat}{v:Value}(h:p≠q):(W.setCell ⟨q,0,none⟩ v).cell? ⟨p,0,none⟩=W.cell? ⟨p,0,none⟩:=
 World.cell?_of_block (a:=⟨p,0,none⟩) (w:=W) (Below.heap_setCell W ⟨q,0,none⟩ v p h)
theorem yn{W:World}{p q:Nat}{v v':Value}(hne:p≠q)(h:∃u,W.cell? ⟨p,0,none⟩=some u):((W.setCell ⟨q,0,none⟩ v').setCell ⟨p,0,none⟩ v).cell? ⟨p,0,none⟩=some v:=by
 obtain⟨u,h⟩:=h;exact ym ⟨u,(vj hne).trans h⟩
theorem vP{W:World}{p:Nat}{o:Obj}(h:p<W.heap.size):(W.alloc o).cell? ⟨p,0,none⟩=W.cell? ⟨p,0,none⟩:=
 World.cell?_of_block (a:=⟨p,0,none⟩) (w:=W) (qxk W o p h)
theorem we{W:World}{n:Nat}{v:Value}{T:TypeId}(h:n=W.heap.size):(W.alloc (.cells #[v] T)).cell? ⟨n,0,none⟩=some v:=
 za (zc W _ h) 0
def Uj(w:World)(N:Nat)(K:List Int)(A:Int->Bool)(e:Ending)(w':World):Prop:=
 ∃Bs Bm v m2,e=.returned (.func (.func 300) #[] #[.pointer (some ⟨Bs,0,none⟩),.pointer (some ⟨Bm,0,none⟩)])/\
   w'.cell? ⟨Bs,0,none⟩=some v/\w'.cell? ⟨Bm,0,none⟩=some (.map (some m2))/\Sl w' 3 1 v K.length (ints K)/\SetAt w' m2 N A/\Below w.heap.size w w'
theorem Et{w w3 w4 W:World}{N Bs Bm m2:Nat}{K:List Int}{A:Int->Bool}{v:Value}{e:Ending}(he:e=.returned (.func (.func 300) #[] #[.pointer (some ⟨Bs,0,none⟩),.pointer (some ⟨Bm,0,none⟩)]))
  (c1:W.cell? ⟨Bs,0,none⟩=some v) (c2:W.cell? ⟨Bm,0,none⟩=some (.map (some m2))) (hs:Sl w3 3 1 v K.length (ints K)) (h34:Upd (fun _=>False) w3 w4) (ha:SetAt w4 m2 N A) (hu:Upd (fun j=>j=Bs\/j=Bm) w4 W)
  (hv:∀g,v.ownBlock=some g->g≠Bs/\g≠Bm) (hm:m2≠Bs/\m2≠Bm) (h03:Upd (fun _=>False) w w3) (hB:w.heap.size<=Bs/\w.heap.size<=Bm):Uj w N K A e W:=
 ⟨Bs,Bm,v,m2,he,c1,c2,(hs.keep h34 (fun _ _ h=>h)).keep hu (fun g hg h=>h.elim (hv g hg).1 (hv g hg).2),ha.keep hu (fun h=>h.elim hm.1 hm.2),
  zk (zk (zk (qxl _ w) h03 (qXv _) (fun _ h=>h.elim)) h34 (qXv _) (fun _ h=>h.elim)) hu (qXv _) (fun _j h=>h.elim (fun e=>e▸hB.1) (fun e=>e▸hB.2))⟩
theorem Eu{w:World}{b mb N most few:Nat}{vk vg:Value}{K G:List Int}{A:Int->Bool}(h:CkAt w b mb N vk vg most few K A G):
  Calls prog 231 #[.pointer (some ⟨b,0,none⟩)] w (Uj w N K A):=by
 have H:=qqh (fun(W:World) (hu:Upd (fun _=>False) w W)=>h.keep hu (fun _ _ h=>h));have hblt:=h.blt;have hkl:=h.kle;have hk4:K.length<=4096:=oM;have g2:=h.c.2.2.1;have g3:=h.c.2.2.2.1;clear h;have nw0:¬b=w.heap.size:=oM;have nw1:¬w.heap.size=b:=oM;have nw2:¬b=w.heap.size+1:=oM;have nw3:¬w.heap.size+1=b:=oM;have C0:=qqh (H.o (w.drew) ((uur _ _).drew));have CA:=qqh (H.o ((w.alloc (.cells #[.slice none 0 0] 87)).drew) (((uur _ _).alloc _).drew));have LA0:Hid (((w.alloc (.cells #[.slice none 0 0] 87)).drew).heap[w.heap.size]?=some (.cells #[.slice none 0 0] 87 (0,0))):=zc w _ rfl;have CB:=qqh (H.o ((w.alloc (.cells #[.map none] 331)).drew) (((uur _ _).alloc _).drew));have LB0:Hid (((w.alloc (.cells #[.map none] 331)).drew).heap[w.heap.size]?=some (.cells #[.map none] 331 (0,0))):=zc w _ rfl;have CAB:=qqh (H.o (((w.alloc (.cells #[.slice none 0 0] 87)).alloc (.cells #[.map none] 331)).drew) ((((uur _ _).alloc _).alloc _).drew));have LAB0:Hid ((((w.alloc (.cells #[.slice none 0 0] 87)).alloc (.cells #[.map none] 331)).drew).heap[w.heap.size]?=some (.cells #[.slice none 0 0] 87 (0,0))):=((((uur (fun _=>False) (w.alloc (.cells #[.slice none 0 0] 87))).alloc (.cells #[.map none] 331)).block w.heap.size oe id).trans (zc w _ rfl))
 have LAB1:Hid ((((w.alloc (.cells #[.slice none 0 0] 87)).alloc (.cells #[.map none] 331)).drew).heap[w.heap.size+1]?=some (.cells #[.map none] 331 (0,0))):=zc (w.alloc _) _ oe;have CBA:=qqh (H.o (((w.alloc (.cells #[.map none] 331)).alloc (.cells #[.slice none 0 0] 87)).drew) ((((uur _ _).alloc _).alloc _).drew));have LBA0:Hid ((((w.alloc (.cells #[.map none] 331)).alloc (.cells #[.slice none 0 0] 87)).drew).heap[w.heap.size]?=some (.cells #[.map none] 331 (0,0))):=((((uur (fun _=>False) (w.alloc (.cells #[.map none] 331))).alloc (.cells #[.slice none 0 0] 87)).block w.heap.size oe id).trans (zc w _ rfl))
 have LBA1:Hid ((((w.alloc (.cells #[.map none] 331)).alloc (.cells #[.slice none 0 0] 87)).drew).heap[w.heap.size+1]?=some (.cells #[.slice none 0 0] 87 (0,0))):=zc (w.alloc _) _ oe;go_enter func231,ntmps231
 go_wp2
 go_region_held3 (fun W=>W.cell? ⟨b,2,none⟩=some vk/\W.cell? ⟨b,3,none⟩=some (.map (some mb))) (go_keep)
  (first
  |((go_at_call 113;(with_reducible refine(yE C0.out.ks.rd hk4).mono ?_);rintro e w3 ⟨v3,rfl,hs3,hf3,hb3⟩;obtain⟨ao3,c3,rfl⟩:=hs3.rd.j7;have hu3:Upd (fun _=>False) w w3:=Upd.trans ((uur _ _).drew) (uuo hb3);have hX:Hid (∀W,Upd (fun _=>False) w3 W->True/\True):=fun W hu=>⟨trivial,trivial⟩;have bl3:b<w3.heap.size:=qXy hblt hu3.size;have nx0:¬b=w3.heap.size:=oM;have nx1:¬w3.heap.size=b:=oM;have nx2:¬b=w3.heap.size+1:=oM;have nx3:¬w3.heap.size+1=b:=oM;have k2:=(H.o _ hu3).c.2.2.1;have k3:=(H.o _ hu3).c.2.2.2.1;have F3:=Y4 hs3 hf3 hb3 hu3;clear hs3 hf3 hb3 hu3))
  |((go_at_call 113;(with_reducible refine(yE CA.out.ks.rd hk4).mono ?_);rintro e w3 ⟨v3,rfl,hs3,hf3,hb3⟩;obtain⟨ao3,c3,rfl⟩:=hs3.rd.j7;have hu3:Upd (fun _=>False) w w3:=Upd.trans (((uur _ _).alloc _).drew) (uuo hb3);have hX:Hid (∀W,Upd (fun _=>False) w3 W->W.heap[w.heap.size]?=some (.cells #[.slice none 0 0] 87 (0,0))/\True):=fun W hu=>⟨(hu.block _ (qXy (zf LA0.out) hb3.size) id).trans ((hb3.block _ (zf LA0.out)).trans LA0.out),trivial⟩;have z0:w.heap.size<w3.heap.size:=qXy (zf LA0.out) hb3.size;have za0:=qYd z0;have zb0:=qYc z0;have bl3:b<w3.heap.size:=qXy hblt hu3.size;have nx0:¬b=w3.heap.size:=oM;have nx1:¬w3.heap.size=b:=oM;have nx2:¬b=w3.heap.size+1:=oM;have nx3:¬w3.heap.size+1=b:=oM;have k2:=(H.o _ hu3).c.2.2.1;have k3:=(H.o _ hu3).c.2.2.2.1;have F3:=Y4 hs3 hf3 hb3 hu3;clear hs3 hf3 hb3 hu3))
  |((go_at_call 113;(with_reducible refine(yE CB.out.ks.rd hk4).mono ?_);rintro e w3 ⟨v3,rfl,hs3,hf3,hb3⟩;obtain⟨ao3,c3,rfl⟩:=hs3.rd.j7;have hu3:Upd (fun _=>False) w w3:=Upd.trans (((uur _ _).alloc _).drew) (uuo hb3);have hX:Hid (∀W,Upd (fun _=>False) w3 W->W.heap[w.heap.size]?=some (.cells #[.map none] 331 (0,0))/\True):=fun W hu=>⟨(hu.block _ (qXy (zf LB0.out) hb3.size) id).trans ((hb3.block _ (zf LB0.out)).trans LB0.out),trivial⟩;have z0:w.heap.size<w3.heap.size:=qXy (zf LB0.out) hb3.size;have za0:=qYd z0;have zb0:=qYc z0;have bl3:b<w3.heap.size:=qXy hblt hu3.size;have nx0:¬b=w3.heap.size:=oM;have nx1:¬w3.heap.size=b:=oM;have nx2:¬b=w3.heap.size+1:=oM;have nx3:¬w3.heap.size+1=b:=oM;have k2:=(H.o _ hu3).c.2.2.1;have k3:=(H.o _ hu3).c.2.2.2.1;have F3:=Y4 hs3 hf3 hb3 hu3;clear hs3 hf3 hb3 hu3))
  |((go_at_call 113;(with_reducible refine(yE CAB.out.ks.rd hk4).mono ?_);rintro e w3 ⟨v3,rfl,hs3,hf3,hb3⟩;obtain⟨ao3,c3,rfl⟩:=hs3.rd.j7;have hu3:Upd (fun _=>False) w w3:=Upd.trans ((((uur _ _).alloc _).alloc _).drew) (uuo hb3);have hX:Hid (∀W,Upd (fun _=>False) w3 W->W.heap[w.heap.size]?=some (.cells #[.slice none 0 0] 87 (0,0))/\W.heap[w.heap.size+1]?=some (.cells #[.map none] 331 (0,0))):=fun W hu=>⟨(hu.block _ (qXy (zf LAB0.out) hb3.size) id).trans ((hb3.block _ (zf LAB0.out)).trans LAB0.out),(hu.block _ (qXy (zf LAB1.out) hb3.size) id).trans ((hb3.block _ (zf LAB1.out)).trans LAB1.out)⟩;have z0:w.heap.size<w3.heap.size:=qXy (zf LAB0.out) hb3.size;have za0:=qYd z0;have zb0:=qYc z0;have z1:w.heap.size+1<w3.heap.size:=qXy (zf LAB1.out) hb3.size;have za1:=qYd z1;have zb1:=qYc z1;have bl3:b<w3.heap.size:=qXy hblt hu3.size;have nx0:¬b=w3.heap.size:=oM;have nx1:¬w3.heap.size=b:=oM;have nx2:¬b=w3.heap.size+1:=oM;have nx3:¬w3.heap.size+1=b:=oM;have k2:=(H.o _ hu3).c.2.2.1;have k3:=(H.o _ hu3).c.2.2.2.1;have F3:=Y4 hs3 hf3 hb3 hu3;clear hs3 hf3 hb3 hu3))
  |((go_at_call 113;(with_reducible refine(yE CBA.out.ks.rd hk4).mono ?_);rintro e w3 ⟨v3,rfl,hs3,hf3,hb3⟩;obtain⟨ao3,c3,rfl⟩:=hs3.rd.j7;have hu3:Upd (fun _=>False) w w3:=Upd.trans ((((uur _ _).alloc _).alloc _).drew) (uuo hb3);have hX:Hid (∀W,Upd (fun _=>False) w3 W->W.heap[w.heap.size]?=some (.cells #[.map none] 331 (0,0))/\W.heap[w.heap.size+1]?=some (.cells #[.slice none 0 0] 87 (0,0))):=fun W hu=>⟨(hu.block _ (qXy (zf LBA0.out) hb3.size) id).trans ((hb3.block _ (zf LBA0.out)).trans LBA0.out),(hu.block _ (qXy (zf LBA1.out) hb3.size) id).trans ((hb3.block _ (zf LBA1.out)).trans LBA1.out)⟩;have z0:w.heap.size<w3.heap.size:=qXy (zf LBA0.out) hb3.size;have za0:=qYd z0;have zb0:=qYc z0;have z1:w.heap.size+1<w3.heap.size:=qXy (zf LBA1.out) hb3.size;have za1:=qYd z1;have zb1:=qYc z1;have bl3:b<w3.heap.size:=qXy hblt hu3.size;have nx0:¬b=w3.heap.size:=oM;have nx1:¬w3.heap.size=b:=oM;have nx2:¬b=w3.heap.size+1:=oM;have nx3:¬w3.heap.size+1=b:=oM;have k2:=(H.o _ hu3).c.2.2.1;have k3:=(H.o _ hu3).c.2.2.2.1;have F3:=Y4 hs3 hf3 hb3 hu3;clear hs3 hf3 hb3 hu3))
  |((go_at_call 235;(with_reducible refine(yV (w:=w3) (H.o _ (F3.out.2.2.2.trans (uur _ _))).set).mono ?_);rintro e w4 ⟨rfl,hset4,hb4⟩;have hu34:Upd (fun _=>False) w3 w4:=Upd.trans (uur _ _) (uuo hb4);obtain⟨x0,x1⟩:=hX.out _ hu34;(try(have xa:=za x0 0));(try(have xb:=zg x0 0));(try(have xc:=za x1 0));(try(have xd:=zg x1 0));(try simp at xa);(try simp at xc);(try(have ya:=zf x0));(try(have yb:=zf x1));(try(have yc:=qYd ya));(try(have yd:=qYc ya));(try(have ye:=qYd yb));(try(have yf:=qYc yb));have X0:=qqh x0;have X1:=qqh x1;clear x0 x1;have M0:Hid True:=trivial;have M1:Hid True:=trivial;have bl4:b<w4.heap.size:=qXy (qXy hblt F3.out.2.2.2.size) hu34.size;have ny0:¬b=w4.heap.size:=oM;have ny1:¬w4.heap.size=b:=oM;have ny2:¬b=w4.heap.size+1:=oM;have ny3:¬w4.heap.size+1=b:=oM;have l2:=(H.o _ (F3.out.2.2.2.trans hu34)).c.2.2.1;have l3:=(H.o _ (F3.out.2.2.2.trans hu34)).c.2.2.2.1;have F4:=Y3 hset4 hb4 hu34;clear hset4 hb4 hu34))
  |((go_at_call 235;(with_reducible refine(yV (w:=(w3.alloc (.cells #[.slice none 0 0] 87))) (H.o _ (F3.out.2.2.2.trans ((uur _ _).alloc _))).set).mono ?_);rintro e w4 ⟨rfl,hset4,hb4⟩;have hu34:Upd (fun _=>False) w3 w4:=Upd.trans ((uur _ _).alloc _) (uuo hb4);obtain⟨x0,x1⟩:=hX.out _ hu34;(try(have xa:=za x0 0));(try(have xb:=zg x0 0));(try(have xc:=za x1 0));(try(have xd:=zg x1 0));(try simp at xa);(try simp at xc);(try(have ya:=zf x0));(try(have yb:=zf x1));(try(have yc:=qYd ya));(try(have yd:=qYc ya));(try(have ye:=qYd yb));(try(have yf:=qYc yb));have X0:=qqh x0;have X1:=qqh x1;clear x0 x1;have m0:w4.heap[w3.heap.size]?=some (.cells #[.slice none 0 0] 87 (0,0)):=(hb4.block _ oC).trans (zc w3 _ rfl);have n0:=za m0 0;have o0:=zg m0 0;simp at n0;have M0:=qqh m0;have lt0:=zf m0;have na0:=qYd lt0;have nb0:=qYc lt0;clear m0;have M1:Hid True:=trivial;have bl4:b<w4.heap.size:=qXy (qXy hblt F3.out.2.2.2.size) hu34.size;have ny0:¬b=w4.heap.size:=oM;have ny1:¬w4.heap.size=b:=oM;have ny2:¬b=w4.heap.size+1:=oM;have ny3:¬w4.heap.size+1=b:=oM;have l2:=(H.o _ (F3.out.2.2.2.trans hu34)).c.2.2.1;have l3:=(H.o _ (F3.out.2.2.2.trans hu34)).c.2.2.2.1;have F4:=Y3 hset4 hb4 hu34;clear hset4 hb4 hu34))
  |((go_at_call 235;(with_reducible refine(yV (w:=(w3.alloc (.cells #[.map none] 331))) (H.o _ (F3.out.2.2.2.trans ((uur _ _).alloc _))).set).mono ?_);rintro e w4 ⟨rfl,hset4,hb4⟩;have hu34:Upd (fun _=>False) w3 w4:=Upd.trans ((uur _ _).alloc _) (uuo hb4);obtain⟨x0,x1⟩:=hX.out _ hu34;(try(have xa:=za x0 0));(try(have xb:=zg x0 0));(try(have xc:=za x1 0));(try(have xd:=zg x1 0));(try simp at xa);(try simp at xc);(try(have ya:=zf x0));(try(have yb:=zf x1));(try(have yc:=qYd ya));(try(have yd:=qYc ya));(try(have ye:=qYd yb));(try(have yf:=qYc yb));have X0:=qqh x0;have X1:=qqh x1;clear x0 x1;have m0:w4.heap[w3.heap.size]?=some (.cells #[.map none] 331 (0,0)):=(hb4.block _ oC).trans (zc w3 _ rfl);have n0:=za m0 0;have o0:=zg m0 0;simp at n0;have M0:=qqh m0;have lt0:=zf m0;have na0:=qYd lt0;have nb0:=qYc lt0;clear m0;have M1:Hid True:=trivial;have bl4:b<w4.heap.size:=qXy (qXy hblt F3.out.2.2.2.size) hu34.size;have ny0:¬b=w4.heap.size:=oM;have ny1:¬w4.heap.size=b:=oM;have ny2:¬b=w4.heap.size+1:=oM;have ny3:¬w4.heap.size+1=b:=oM;have l2:=(H.o _ (F3.out.2.2.2.trans hu34)).c.2.2.1;have l3:=(H.o _ (F3.out.2.2.2.trans hu34)).c.2.2.2.1;have F4:=Y3 hset4 hb4 hu34;clear hset4 hb4 hu34))
  |((go_at_call 235;(with_reducible refine(yV (w:=((w3.alloc (.cells #[.slice none 0 0] 87)).alloc (.cells #[.map none] 331))) (H.o _ (F3.out.2.2.2.trans (((uur _ _).alloc _).alloc _))).set).mono ?_);rintro e w4 ⟨rfl,hset4,hb4⟩;have hu34:Upd (fun _=>False) w3 w4:=Upd.trans (((uur _ _).alloc _).alloc _) (uuo hb4);obtain⟨x0,x1⟩:=hX.out _ hu34;(try(have xa:=za x0 0));(try(have xb:=zg x0 0));(try(have xc:=za x1 0));(try(have xd:=zg x1 0));(try simp at xa);(try simp at xc);(try(have ya:=zf x0));(try(have yb:=zf x1));(try(have yc:=qYd ya));(try(have yd:=qYc ya));(try(have ye:=qYd yb));(try(have yf:=qYc yb));have X0:=qqh x0;have X1:=qqh x1;clear x0 x1;have m0:w4.heap[w3.heap.size]?=some (.cells #[.slice none 0 0] 87 (0,0)):=(hb4.block _ oC).trans (((((uur (fun _=>False) (w3.alloc (.cells #[.slice none 0 0] 87))).alloc (.cells #[.map none] 331)).block w3.heap.size oe id).trans (zc w3 _ rfl)));have n0:=za m0 0;have o0:=zg m0 0;simp at n0;have M0:=qqh m0;have lt0:=zf m0;have na0:=qYd lt0;have nb0:=qYc lt0;clear m0;have m1:w4.heap[w3.heap.size+1]?=some (.cells #[.map none] 331 (0,0)):=(hb4.block _ oC).trans (zc (w3.alloc _) _ oe);have n1:=za m1 0;have o1:=zg m1 0;simp at n1;have M1:=qqh m1;have lt1:=zf m1;have na1:=qYd lt1;have nb1:=qYc lt1;clear m1;have bl4:b<w4.heap.size:=qXy (qXy hblt F3.out.2.2.2.size) hu34.size;have ny0:¬b=w4.heap.size:=oM;have ny1:¬w4.heap.size=b:=oM;have ny2:¬b=w4.heap.size+1:=oM;have ny3:¬w4.heap.size+1=b:=oM;have l2:=(H.o _ (F3.out.2.2.2.trans hu34)).c.2.2.1;have l3:=(H.o _ (F3.out.2.2.2.trans hu34)).c.2.2.2.1;have F4:=Y3 hset4 hb4 hu34;clear hset4 hb4 hu34))
  |((go_at_call 235;(with_reducible refine(yV (w:=((w3.alloc (.cells #[.map none] 331)).alloc (.cells #[.slice none 0 0] 87))) (H.o _ (F3.out.2.2.2.trans (((uur _ _).alloc _).alloc _))).set).mono ?_);rintro e w4 ⟨rfl,hset4,hb4⟩;have hu34:Upd (fun _=>False) w3 w4:=Upd.trans (((uur _ _).alloc _).alloc _) (uuo hb4);obtain⟨x0,x1⟩:=hX.out _ hu34;(try(have xa:=za x0 0));(try(have xb:=zg x0 0));(try(have xc:=za x1 0));(try(have xd:=zg x1 0));(try simp at xa);(try simp at xc);(try(have ya:=zf x0));(try(have yb:=zf x1));(try(have yc:=qYd ya));(try(have yd:=qYc ya));(try(have ye:=qYd yb));(try(have yf:=qYc yb));have X0:=qqh x0;have X1:=qqh x1;clear x0 x1;have m0:w4.heap[w3.heap.size]?=some (.cells #[.map none] 331 (0,0)):=(hb4.block _ oC).trans (((((uur (fun _=>False) (w3.alloc (.cells #[.map none] 331))).alloc (.cells #[.slice none 0 0] 87)).block w3.heap.size oe id).trans (zc w3 _ rfl)));have n0:=za m0 0;have o0:=zg m0 0;simp at n0;have M0:=qqh m0;have lt0:=zf m0;have na0:=qYd lt0;have nb0:=qYc lt0;clear m0;have m1:w4.heap[w3.heap.size+1]?=some (.cells #[.slice none 0 0] 87 (0,0)):=(hb4.block _ oC).trans (zc (w3.alloc _) _ oe);have n1:=za m1 0;have o1:=zg m1 0;simp at n1;have M1:=qqh m1;have lt1:=zf m1;have na1:=qYd lt1;have nb1:=qYc lt1;clear m1;have bl4:b<w4.heap.size:=qXy (qXy hblt F3.out.2.2.2.size) hu34.size;have ny0:¬b=w4.heap.size:=oM;have ny1:¬w4.heap.size=b:=oM;have ny2:¬b=w4.heap.size+1:=oM;have ny3:¬w4.heap.size+1=b:=oM;have l2:=(H.o _ (F3.out.2.2.2.trans hu34)).c.2.2.1;have l3:=(H.o _ (F3.out.2.2.2.trans hu34)).c.2.2.2.1;have F4:=Y3 hset4 hb4 hu34;clear hset4 hb4 hu34)))
 all_goals
  go_wp2
  go_ret
  have hz3:=F3.out.2.2.1.size;have hz4:=F4.out.2.1.size;have hz34:=F4.out.2.2.size;have hm4:=F4.out.1.lt;simp only[qYs,World.size_drew]at hz3 hz4 hm4;have hvb:∀g,(Value.slice ao3 K.length c3).ownBlock=some g->g<w3.heap.size:=fun g hg=>F3.out.1.lt hg;have hvf:∀g,(Value.slice ao3 K.length c3).ownBlock=some g->_<=g:=F3.out.2.1;simp only[qYs,World.size_drew]at hvf;refine Et rfl ?c1 ?c2 F3.out.1 F4.out.2.2 F4.out.1 ?u ?v ?m F3.out.2.2.2 ?B
  case u=>(repeat (first|exact uur _ _|refine Upd.alloc ?_ _|refine Upd.setCell ?_ _ (fun _=>oe) _))
  case B=>exact⟨oM,oM⟩
  case m=>(try simp only[qYs]);exact⟨oM,oM⟩
  case v=>exact fun g hg=>⟨by have:=hvb g hg;have:=hvf g hg;omega,by have:=hvb g hg;have:=hvf g hg;omega⟩
  case c1=>with_reducible first|(first|exact we oe|exact yn oM ⟨_,‹_›⟩|exact ym ⟨_,‹_›⟩)|(refine(vj ?_).trans ?_;omega;first|exact we oe|exact yn oM ⟨_,‹_›⟩|exact ym ⟨_,‹_›⟩)|(refine(vP ?_).trans ?_;((try simp only[qYs,World.size_setCell]);omega);first|exact we oe|exact yn oM ⟨_,‹_›⟩|exact ym ⟨_,‹_›⟩)
  case c2=>(try simp only[qYs]);with_reducible first|(first|exact we oe|exact yn oM ⟨_,‹_›⟩|exact ym ⟨_,‹_›⟩)|(refine(vj ?_).trans ?_;omega;first|exact we oe|exact yn oM ⟨_,‹_›⟩|exact ym ⟨_,‹_›⟩)|(refine(vP ?_).trans ?_;((try simp only[qYs,World.size_setCell]);omega);first|exact we oe|exact yn oM ⟨_,‹_›⟩|exact ym ⟨_,‹_›⟩)
theorem WW{S:Nat->Prop}{w:World}{b N most few:Nat}{K G:List Int}{A:Int->Bool}(h:Ck S w b N most few K A G):
  Calls prog 231 #[.pointer (some ⟨b,0,none⟩)] w fun e w'=>∃gf lb,e=.returned (.func (.func gf) #[] lb)/\zaB zaA w' gf lb (kaL K A)/\Below w.heap.size w w':=by
 obtain⟨mb,vk,vg,h,-⟩:=h;refine(Eu h).mono ?_;rintro e w1 ⟨Bs,Bm,v,m2,rfl,c1,c2,hs,ha,hB⟩;refine⟨_,_,rfl,⟨enters_of func300 kR rfl,fun n hn S hS w2 hw2=>?_⟩,hB⟩;intro l J Jx W hW hJ _ hY h0;have hlt:∀{j:Nat},j<w1.heap.size->¬S j:=fun hj e=>by have:=hS _ e;omega
 have hU:=qqb hw2;have hU2:Upd (fun _=>False) w1 W:=hU.trans (uuo hW);rw[qo]at hY;exact zcG n hn S l Bs Bm m2 N K A v (by have:=h.kle;omega) h.good.kr (fun g hg=>hlt (hs.lt hg)) (hlt (zN c2).2) (hlt ha.lt) J Jx W.heap.size hJ hY W ((hU2.cellAt (zN c1).2 id).trans c1) ((hU2.cellAt (zN c2).2 id).trans c2)
  (hs.keep hU2 (fun _ _ h=>h)) (ha.keep hU2 id) h0
attribute [local go_sem] qYh
def CaS.spareB(a:CaS):Bool:=a.K.any (cleanB a.ps)
theorem Uk(K:List Int)(A:Int->Bool):(kaL K A).map (·.1)=K:=by
 simp[kaL,Function.comp_def]
def SpX(ps:List (Int×Bool))(wz:World)(rb:Nat)(cc:Code)(pre:List It7)(W:World):Prop:=
 cc=.ret/\(∃x∈pre,cleanB ps x.1=true)/\Boxed W rb 4 (.bool true)/\Upd (fun j=>j=rb\/wz.heap.size<=j) wz W
theorem RZ{own:Nat->Nat}{w:World}{c:Nat}{n:CaN}{p:CaP}{a:CaS}(h:CaAt own w c n p a):
  Calls prog 163 #[ptr c] w fun e w'=>e=.returned (.bool a.spareB)/\Below w.heap.size w w':=by
 obtain⟨w1,hw1⟩:=qqe ((w.alloc (.cells #[ptr c] 62)).alloc (.cells #[.bool false] 4));have hu1:Upd (fun _=>False) w w1:=by rw[hw1];exact((uur _ w).alloc _).alloc _
 have g0:w1.heap[w.heap.size]?=some (.cells #[ptr c] 62 (0,0)):=by rw[hw1];exact(qxk _ _ _ oe).trans (zc w _ rfl)
 have g1:w1.heap[w.heap.size+1]?=some (.cells #[.bool false] 4 (0,0)):=by rw[hw1];exact zc _ _ oe
 have hz1:w1.heap.size=w.heap.size+2:=by rw[hw1];simp
 have h1:=h.new hu1;have hcl:=h.clt;obtain⟨-,-,-,-,-,-,-,d7,-⟩:=h.cells;have HA:=qqh (WW h1.ck);have H1:=Y4 h1 hu1 g0 g1;clear h h1 hu1 g0 g1;refine(callsIn_wide (n:=4)).1 ?_;refine callsIn_of_wp_marks func163 rfl trivial ?_ rfl;simp only[ntmps163,qXm,qze,qzh,Nat.reduceAdd,Nat.reduceSub,qxi,qxj,qXg,qxz,qzz,qya];refine wpIn_wide.2 ?_;go_wp2_with fail
 rw[<-hw1];clear hw1 d7;refine HA.o.mono ?_;rintro e w2 ⟨gf,lb,rfl,hg,hb2⟩;have hz2:=hb2.size;have HU2:Hid (Upd (fun _=>False) w1 w2):=uuo hb2;have HG:=qqh hg;clear HA hg;go_wp2_with fail
 refine(wpIn_wide (n:=4)).1 ?_
 refine' wpIn_rangeFunc_ownH rfl oM (gf:=gf) (lb:=lb) rfl trivial HG.o.1
  (HG.o.2 3 oM (fun j=>w2.heap.size<=j) (fun j h=>h) _ (qxl _ _)) uR (fun W l o o' hl=>wN (M:=w2.heap.size) (fun j h=>h) W l o o' hl) (qxl _ _) (fun _=>rfl)
  (fun pre W=>Below w2.heap.size w2 W/\∀x∈pre,cleanB a.ps x.1=false)
  (SpX a.ps w2 (w.heap.size+1))
  (fun pre X Y row hs hg hr=>⟨ownFrom_below (β:=Unit) (qXv _) (qXv _) () X Y row hs.1 hg hr,hs.2⟩)
  (fun cc pre X Y row hs hg hr=>⟨hs.1,hs.2.1,(grownBy_keeps_cells hg (fun r e=>(hr r e).2) hs.2.2.1 rfl).trans hs.2.2.1,xt hs.2.2.2 hg (fun r e=> .inr (hr r e).1)⟩)
  ⟨qxl _ _,fun x hx=>by cases hx⟩
  (fun x a' _=>a'=(_:It7->Act) x)
  (fun x a'=>fun s X Y row hs hg hr=>hs)
  ?assign ?body ?done ?stop
 case assign=>
  rintro l' pre x W K ⟨hB,hn⟩ hK
  gi_wp2
  refine hK _ _ (KeepsFrom.refl _ _) (uur _ _) ⟨hB,hn⟩ ?_;exact rfl
 case body=>
  rintro l' pre x a' W hl _ ⟨hB,hn⟩ rfl hlt;have hu:Upd (fun _=>False) w1 W:=HU2.o.trans (uuo hB);obtain⟨h1,-,g0,g1⟩:=H1.o;have hcb:=rj (h1.new hu) x.1;have g0':=hu.j6 g0;have g1':=hu.j6 g1;have c0:=za g0' 0;have HC:=qqh hcb;have HB:=Y3 hB hn g1';clear h1 g0 g1 hcb g0' g1' hB hn hu
  gi_wp2_with fail
  refine⟨trivial,?_⟩;refine(CallsIn.inRound l' (callsIn_wide.2 HC.o)).mono ?_;rintro e W2 ⟨rfl,hb3⟩;obtain⟨hB,hn,g1'⟩:=HB.o;have g2:=(hb3.block _ (zf g1')).trans g1';have c2:=za g2 0;have f2:=zg g2 0;have hB2:Below w2.heap.size w2 W2:=hB.trans (hb3.mono hB.size);have hKO:KeepsOthers W W2:=⟨hb3.size,fun k o hk ho=>(hb3.block k (zf hk)).trans hk⟩
  have HN:=qqh hn;have HB2:=Y4 hB2 hKO g2 hb3;clear hB hn g1' g2 hB2 hKO hb3 HC c0;rcases hq:cleanB a.ps x.1 with _|_
  .have HQ:=qqh hq;clear hq
   gi_wp2
   obtain⟨hB2,hKO,g2,hb3⟩:=HB2.o;refine⟨hKO.from _,uuo hb3,hB2,fun y hy=>?_⟩;rcases qzq.1 hy with hy|hy
   .exact HN.o y hy
   .simp at hy;subst hy;exact HQ.o
  .have HQ:=qqh hq;clear hq
   gi_wp2
   obtain⟨hB2,hKO,g2,hb3⟩:=HB2.o;have hus:=zj W2 (w.heap.size+1) 0 (.bool true);refine⟨(hKO.trans (zD hus (fun j hj _=>⟨_,_,_,hj▸g2⟩))).from _,rfl,⟨x,oe,HQ.o⟩,Boxed.set (.bool true) (show Boxed W2 (w.heap.size+1) 4 (.bool false)from g2),?_⟩;exact(uuo hB2).trans (hus.mono (fun _ _ h=> .inl h))
 case done=>
  rintro D ys W hD rfl ⟨hB,hn⟩ hK;have hu:Upd (fun _=>False) w1 W:=HU2.o.trans (uuo hB);have g1:=hu.j6 H1.o.2.2.2;have c1:=za g1 0;have f1:=zg g1 0;have hsp:a.spareB=false:=by
   unfold CaS.spareB;rw[List.any_eq_false];intro k hk;have hk':k∈(kaL a.K a.A).map (·.1):=by rw[Uk];exact hk
   obtain⟨x,hx,rfl⟩:=qzv.1 hk';rw[hn x hx];decide
  have HS:=Y5 hsp hK hu g1 hD;clear hsp hK hu g1 hn hB hD;go_wp2
  obtain⟨hsp,hK,hu,g1,hD⟩:=HS.o;have hus:=zj W (w.heap.size+1) 0 (.bool false);have hDl:=zf hK;have hK2:(W.setCell ⟨w.heap.size+1,0,none⟩ (.bool false)).heap[D]?=some (.deferred (some [])):=(hus.block D hDl oM).trans hK;have g2:=zi g1 0 (.bool false);have hpo:=uL (W.setCell ⟨w.heap.size+1,0,none⟩ (.bool false)) D (.deferred none);have c3:=za ((hpo.block _ (zf g2) oM).trans g2) 0;refine⟨oe,.inl ⟨_,_,rfl,run_takeDeferred hK2,?_⟩⟩;refine⟨.bool false,by simp[results,results163,go_sem,c3],by rw[hsp],?_⟩;have hX:=(hu.mono (S':=fun j=>w.heap.size<=j) (fun _ _ h=>h.elim)).trans ((hus.mono (fun j _ e=>oM)).trans (hpo.mono (fun j _ e=>oM)));exact zk (qxl _ _) ((H1.o.2.1.mono (S':=fun j=>w.heap.size<=j) (fun _ _ h=>h.elim)).trans hX) (qXv _) (fun k h=>h)
 case stop=>
  rintro D cc pre W hD hsp ⟨rfl,⟨x,hx,hq⟩,hb,hu⟩ hK;have hsp2:a.spareB=true:=by
   unfold CaS.spareB;rw[List.any_eq_true];refine⟨x.1,?_,hq⟩;rw[<-Uk a.K a.A];exact qzv.2 ⟨x,hsp.subset hx,rfl⟩
  have hX:Upd (fun j=>w.heap.size<=j) w W:=((H1.o.2.1.trans HU2.o).mono fE).trans (hu.mono (fun j _ h=>oM));have hpo:=uL W D (.deferred none);have c3:=za ((hpo.block _ (zf hb) oM).trans hb) 0;have HS:=Y5 hsp2 hK hX hpo c3;clear hsp2 hK hX hpo c3 hb hu hsp hx hq
  gi_wp2
  obtain⟨hsp2,hK,hX,hpo,c3⟩:=HS.o;refine⟨oe,.inl ⟨_,_,rfl,run_takeDeferred hK,?_⟩⟩;refine⟨.bool true,by simp[results,results163,go_sem,c3],by rw[hsp2],?_⟩;exact zk (qxl _ _) (hX.trans (hpo.mono (fun j _ e=>oM))) (qXv _) (fun k h=>h)
end Go.Proofs.YtfhfbpmlnjdfoaaGreatDoor
