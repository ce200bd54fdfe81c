/- The forms of r -/
import Derived.Test.YtbnpkobbnjihjaaGreatDoorG10
import Derived.Test.YtbnpkobbnjihjaaGreatDoorG08
import Derived.Test.YtbnpkobbnjihjaaGreatDoorG09
set_option maxRecDepth 100000
set_option maxHeartbeats 4000000
namespace Go.Proofs.YtbnpkobbnjihjaaGreatDoor
open Go Go.RowKit Tryz
variable{w:World}
theorem wU{P:Prop}(h:P:=by
 have hmf:=qqf;go_enter q1f,q2f
 go_wp2_with fail
 refine(vD).mono ?_;rintro e w1 ⟨rfl,rfl⟩;go_wp2
 obtain⟨h1,h2,h3,h4,h5,h6,h7⟩:=Xa w (.cells #[.int .i64 n3f,.slice (some ⟨w.heap.size+1+1+1+1,0,none⟩) RI RI,.func (.func n5f) #[] #[],.func (.func n6f) #[] #[.pointer (some ⟨w.heap.size+1+1+1,0,none⟩)],.func (.func n7f) #[] #[]] n8f)
  (.cells (bndC d9f).toArray 176) (.cells #[.slice (some ⟨w.heap.size+1,0,none⟩) zaq zaq] 260) (.cells #[.func (.func 167) #[] #[.pointer (some ⟨w.heap.size+1+1,0,none⟩)]] 114) (.cells (ints (natsI d11f)).toArray 3)
 refine qYq (zq rfl _ _ w.heap.size 0 [.int .i64 n3f,.slice (some ⟨w.heap.size+1+1+1+1,0,none⟩) RI RI,.func (.func n5f) #[] #[],.func (.func n6f) #[] #[.pointer (some ⟨w.heap.size+1+1+1,0,none⟩)],.func (.func n7f) #[] #[]] _ rfl (zf h1) zfi rfl zfj) rfl
  ⟨w.heap.size+1+1+1+1,w.heap.size+1+1+1,rfl,⟨zf h5,_,za h4 0,w.heap.size+1+1,w.heap.size+1,zaq,rfl,za h3 0,zf h2⟩,Upd.below h7⟩):P:=h
theorem uO{P:Prop}(h:P:=by
 obtain⟨hs,v,hv,hB⟩:=hF;have hcz:(prog.info? n14f).map (·.size)=some cs.length:=by rw[hcs];exact zar
 have htell':∀W,Below w.heap.size w W->Calls prog n5f (#[.agg cs.toArray]++ #[]) W (zS W RI xs):=fun W _=>htell W;have hmay:∀W gl cc,RI<=cc->cc<=maxLen->Below w.heap.size w W->W.rangeAt gl 0 (ints xs)->Calls prog n6f (#[.slice (some ⟨gl,0,none⟩) RI cc]++ #[.pointer (some ⟨gt,0,none⟩)]) W fun e W'=>e=.returned (.bool (d16f xs))/\Below W.heap.size W W':=fun W gl cc hc hc2 hW hr=>
  zfk xs hxl hc hc2 ((uuo (S:=fun _=>False) hW).jU hv id) (hB.below hW) hr
 cases hm:d16f xs with
 |false=>
  rw[hm]at hmay;exact(zfl (w:=w) n3f xs RI gs RI n5f n6f #[] #[.pointer (some ⟨gt,0,none⟩)] (.func (.func n7f) #[] #[]) rfl cs hcz (fun _ _=>rfl) (fun _ _=>rfl) htell' hmay).mono
   (fun e w' ⟨he,hb⟩=>⟨.inr ⟨hm,he⟩,hb⟩)
 |true=>
  rw[hm]at hmay;obtain⟨h0,hfit⟩:=zfm hxl hm;have e:numsL (numL d11f xs)=xs:=tB jG h0;rw[<-e]at htell' hmay;exact(zfn (w:=w) n3f de (numL d11f xs) hfit RI (by rw[qU jG];rfl) de gs RI n5f n6f #[] #[.pointer (some ⟨gt,0,none⟩)] (.func (.func n7f) #[] #[]) rfl cs hcz (by rw[Xl jG];exact hs) hN (fun _ _=>rfl) (fun _ _=>rfl) htell' hmay).mono
   (fun e w' ⟨he,hb⟩=>⟨.inl ⟨hm,he⟩,hb⟩)):P:=h
theorem wJ{P:Prop}(h:P:=by
 have HN:=Y2 hN htell;have hcz:(prog.info? n14f).map (·.size)=some cs.length:=by rw[hcs];exact zar
 have HC:=qqh hcz;have hr:((w.alloc (.cells cs.toArray n14f)).alloc (.cells (bkC zB).toArray 54)).rangeAt w.heap.size 0 cs:=qYj (zf (zc w _ rfl)) _;clear hN htell hcz;go_enter zcM,zcN
 go_wp2_with fail
 change Code.wp _ _ _ _ ((w.alloc (.cells cs.toArray n14f)).alloc (.cells (bkC zB).toArray 54))
 have hg:((w.alloc (.cells cs.toArray n14f)).alloc (.cells (bkC zB).toArray 54)).heap[w.heap.size+1]?=some (.cells (bkC zB).toArray 54):=zc _ _ oe;have hu:Upd (fun _=>False) w ((w.alloc (.cells cs.toArray n14f)).alloc (.cells (bkC zB).toArray 54)):=((uur _ w).alloc _).alloc _;generalize (w.alloc (.cells cs.toArray n14f)).alloc (.cells (bkC zB).toArray 54)=w2 at*;have hb2:Below w.heap.size w w2:=Upd.below hu;refine qZd (S:=fun W=>W.rangeAt w.heap.size 0 cs) kR oG (fun hHeld=>?_);refine Wl.l 1 (fun w h=>h) zcO HC.o hHeld ?_;refine Wl.r 0 (fun K hK=>?_);go_simp
 refine(zcP _).mono ?_;rintro e w3 ⟨gs,gt,rfl,hF,hb3⟩;have hb3':Below w2.heap.size w2 w3:=yj hb3;refine hK.o _ _ (Below.range hb3 hHeld) (fun hHeld2=>?_);clear hK K;refine Wl.r 2 (fun K hK=>?_);go_simp
 refine(zcQ hF ((HN.o.1.keep hu id).below hb3') cs hcs xs hxl HN.o.2).mono ?_;rintro e w4 ⟨he,hb4⟩;have hb4':Below w2.heap.size w2 w4:=hb3'.trans (hb4.mono hb3'.size);have hg4:=(hb4'.block _ (zd hg)).trans hg;have hth:w4.there (w.heap.size+1) 0 64:=fun j hj=>by
  rw[za hg4,zg hg4];exact⟨by rw[qXy,qxe oD];rfl,rfl⟩
 obtain⟨y,cd,hy,hres,rfl⟩:∃(y:Bk) (cd:Int),y.length=64/\((d16f xs=true/\y=zcR xs/\cd=0)\/(d16f xs=false/\y=zB/\cd=10))/\e=.returned (.tuple #[.agg (bkC y).toArray,.int .i64 cd]):=by
  rcases he with⟨hm,rfl⟩|⟨hm,rfl⟩
  .exact ⟨_,0,zcS hxl,.inl ⟨hm,rfl,rfl⟩,rfl⟩
  .exact ⟨_,10,zG,.inr ⟨hm,rfl,rfl⟩,rfl⟩
 have HR:=Y2 hy hres;clear he hy hres;have hst:w4.there (w.heap.size+1) 0 (bkC y).toArray.size:=by rw[zm _ HR.o.1];exact hth
 have hst2:w4.there (w.heap.size+1) 0 (bkC y).length:=by rw[zn,HR.o.1];exact hth
 have hsz2:(prog.info? 54).map (·.size)=some (bkC y).toArray.size:=by rw[zm _ HR.o.1];exact zI
 refine hK.o _ _ (Below.range hb4 hHeld2) (fun hHeld3=>?_);clear hK K;refine Wl.i [3,4] ?_;iterate 2 refine Wl.t hHeld3 ?_
 refine Wl.o ?_;have hU5:Below w.heap.size w (w4.setCells (w.heap.size+1) 0 (bkC y)):=zj (hb2.trans (hb4'.mono hu.size)) (zo w4 (w.heap.size+1) 0 _) (qXp _) (fun k e=>oM);refine Wl.r 5 (fun K hK=>?_);rw[if_pos oA];refine qZe _ _ _ rfl _ _ (List.toArray _) rfl rfl (hst) (hsz2) (qYo (zu _)) ?_;simp only[Act.put,qXd];refine hK.o _ _ ((zo w4 (w.heap.size+1) 0 (bkC y)).range hHeld3 oM) (fun hHeld4=>?_);clear hK K;refine Wl.r 6 (fun K hK=>?_);go_simp
 refine hK.o _ _ (hHeld4) (fun _=>?_);clear hK K;refine Wl.d ?_;have HE:=Y2 hU5 hst2;clear hst hst2 hsz2 hU5 hth hg4 hb4 hb4' hb3 hb3' hHeld hHeld2 hHeld3 hHeld4 hF hr hg hu hb2;go_wp2
 refine qYq (zp rfl _ _ (w.heap.size+1) 0 (bkC y) _ rfl (qYl _ _ _ _ HE.o.2) underlying54 rfl (zv _ HR.o.1)) rfl ⟨?_,HE.o.1⟩;rcases HR.o.2 with⟨hm,rfl,rfl⟩|⟨hm,rfl,rfl⟩
 .exact .inl ⟨hm,rfl⟩
 .exact .inr ⟨hm,rfl⟩):P:=h
def ST:List Nat:=[6,6,1,2,2,1,4]
def Vu(gs gt:Nat):Value:=.agg #[.int .i64 2,.slice (some ⟨gs,0,none⟩) 7 7,.func (.func 305) #[] #[],.func (.func 306) #[] #[.pointer (some ⟨gt,0,none⟩)],.func (.func 307) #[] #[]]
def SU(w:World)(gs gt:Nat):Prop:=w.rangeAt gs 0 (ints (natsI ST))/\∃v,w.cell? ⟨gt,0,none⟩=some v/\Bnd w v bndR
theorem UU:(prog.info? 382).map (·.size)=some 5:=kR
theorem infoThR:(prog.info? 273).map (·.size)=some 7:=kR
namespace fFormR2
theorem q1f:type_of% @func239:= @func239
theorem q2f:type_of% @ntmps239:= @ntmps239
abbrev n3f:Nat:=2
abbrev RI:Nat:=7
abbrev n5f:Nat:=305
abbrev n6f:Nat:=306
abbrev n7f:Nat:=307
abbrev n8f:Nat:=382
abbrev d9f:= @bndR
abbrev zaq:Nat:=7
abbrev d11f:= @ST
theorem zfi:type_of% @underlying382:= @underlying382
theorem zfj:type_of% @UU:= @UU
end fFormR2
open fFormR2 in
theorem xL(w:World):Calls prog 239 #[] w fun e b=>∃gs j,e=.returned (Vu gs j)/\SU b gs j/\Below w.heap.size w b:=wU
def sectR(xs:List Int):Bk:=sectB 2 (numL ST xs)
theorem tG{xs:List Int}(h:xs.length=7):(sectR xs).length=64:=yT jB
def Xz(w:World)(xs:List Int)(e:Ending)(w':World):Prop:=
 ((mayR xs=true/\e=.returned (.tuple #[.agg (bkC (sectR xs)).toArray,.int .i64 0]))\/(mayR xs=false/\e=.returned (.tuple #[.agg (bkC zB).toArray,.int .i64 10])))/\Below w.heap.size w w'
namespace fFormR2
abbrev n14f:Nat:=273
theorem zar:type_of% @infoThR:= @infoThR
abbrev d16f:= @mayR
theorem zfk:type_of% @rD:= @rD
theorem zfl:type_of% @UM:= @UM
theorem zfm:type_of% @Zc:= @Zc
theorem zfn:type_of% @Xp:= @Xp
end fFormR2
open fFormR2 in
theorem XA{w:World}{gs gt:Nat}(hF:SU w gs gt)(hN:Nib w)(cs:List Value)(hcs:cs.length=7)(xs:List Int)(hxl:xs.length=7)
  (htell:∀W,Calls prog 305 #[.agg cs.toArray] W (zS W 7 xs)):
  Calls prog 420 #[Vu gs gt,.agg cs.toArray] w (Xz w xs):=uO
namespace fFormR2
theorem zcM:type_of% @func394:= @func394
theorem zcN:type_of% @ntmps394:= @ntmps394
theorem zcO:type_of% @underlying273:= @underlying273
theorem zcP:type_of% @xL:= @xL
theorem zcQ:type_of% @XA:= @XA
abbrev zcR:= @sectR
theorem zcS:type_of% @tG:= @tG
end fFormR2
open fFormR2 in
theorem SV(hN:Nib w)(cs:List Value)(hcs:cs.length=7)(xs:List Int)(hxl:xs.length=7)
  (htell:∀W,Calls prog 305 #[.agg cs.toArray] W (zS W 7 xs)):
  Calls prog 394 #[.agg cs.toArray] w (Xz w xs):=wJ
def UV:List Nat:=[6,2,2,1,2,2,1,4,2,2,1,4,2,2,1,4,2,2,1,4]
def Vv(gs gt:Nat):Value:=.agg #[.int .i64 3,.slice (some ⟨gs,0,none⟩) 20 20,.func (.func 298) #[] #[],.func (.func 300) #[] #[.pointer (some ⟨gt,0,none⟩)],.func (.func 302) #[] #[]]
def SW(w:World)(gs gt:Nat):Prop:=w.rangeAt gs 0 (ints (natsI UV))/\∃v,w.cell? ⟨gt,0,none⟩=some v/\Bnd w v bndP
theorem UW:(prog.info? 371).map (·.size)=some 5:=kR
theorem wK:(prog.info? 263).map (·.size)=some 20:=kR
namespace fFormP2
theorem q1f:type_of% @func232:= @func232
theorem q2f:type_of% @ntmps232:= @ntmps232
abbrev n3f:Nat:=3
abbrev RI:Nat:=20
abbrev n5f:Nat:=298
abbrev n6f:Nat:=300
abbrev n7f:Nat:=302
abbrev n8f:Nat:=371
abbrev d9f:= @bndP
abbrev zaq:Nat:=4
abbrev d11f:= @UV
theorem zfi:type_of% @underlying371:= @underlying371
theorem zfj:type_of% @UW:= @UW
end fFormP2
open fFormP2 in
theorem vK(w:World):Calls prog 232 #[] w fun e b=>∃gs j,e=.returned (Vv gs j)/\SW b gs j/\Below w.heap.size w b:=wU
def sectP(xs:List Int):Bk:=sectB 3 (numL UV xs)
theorem xZ{xs:List Int}(h:xs.length=20):(sectP xs).length=64:=yT jB
def XB(w:World)(xs:List Int)(e:Ending)(w':World):Prop:=
 ((mayP xs=true/\e=.returned (.tuple #[.agg (bkC (sectP xs)).toArray,.int .i64 0]))\/(mayP xs=false/\e=.returned (.tuple #[.agg (bkC zB).toArray,.int .i64 10])))/\Below w.heap.size w w'
namespace fFormP2
abbrev n14f:Nat:=263
theorem zar:type_of% @wK:= @wK
abbrev d16f:= @mayP
theorem zfk:type_of% @rm:= @rm
theorem zfl:type_of% @UN:= @UN
theorem zfm:type_of% @tE:= @tE
theorem zfn:type_of% @Xq:= @Xq
end fFormP2
open fFormP2 in
theorem XC{w:World}{gs gt:Nat}(hF:SW w gs gt)(hN:Nib w)(cs:List Value)(hcs:cs.length=20)(xs:List Int)(hxl:xs.length=20)
  (htell:∀W,Calls prog 298 #[.agg cs.toArray] W (zS W 20 xs)):
  Calls prog 231 #[Vv gs gt,.agg cs.toArray] w (XB w xs):=uO
namespace fFormP2
theorem zcM:type_of% @func168:= @func168
theorem zcN:type_of% @ntmps168:= @ntmps168
theorem zcO:type_of% @underlying263:= @underlying263
theorem zcP:type_of% @vK:= @vK
theorem zcQ:type_of% @XC:= @XC
abbrev zcR:= @sectP
theorem zcS:type_of% @xZ:= @xZ
end fFormP2
open fFormP2 in
theorem XD(hN:Nib w)(cs:List Value)(hcs:cs.length=20)(xs:List Int)(hxl:xs.length=20)
  (htell:∀W,Calls prog 298 #[.agg cs.toArray] W (zS W 20 xs)):
  Calls prog 168 #[.agg cs.toArray] w (XB w xs):=wJ
def needN(n:Nat):Nat:=(n-1)/4+1
def partE(E:List Ent)(k:Nat):List Ent:=(E.drop (4*k)).take 4
def padE(l:List Ent):List Ent:=l++List.replicate (4-l.length) Ent.none
def pageXs(seq need:Nat)(E:List Ent)(k:Nat):List Int:=natsI (pgN seq k need (partE E k).length (padE (partE E k)))
def yk(seq:Nat)(E:List Ent)(k:Nat):List Bk:=(List.range k).map fun i=>sectP (pageXs seq (needN E.length) E i)
def pagesB(seq:Nat)(E:List Ent):List Bk:=yk seq E (needN E.length)
def Ze(x:Ent):Prop:=x.b<=4095/\x.s<=1023/\x.m<=4294967295
theorem qB(E:List Ent)(k:Nat):(partE E k).length<=4:=by simp[partE];omega
theorem qC{l:List Ent}(h:l.length<=4):(padE l).length=4:=by simp[padE];omega
theorem Qw(L:List Ent):(L.flatMap entN).length=L.length*4:=by
 induction L with
 |nil=>rfl
 |cons x L b=>rw[qye,qyy,b,qyz,show(entN x).length=4 from rfl];omega
theorem yX(seq need:Nat)(E:List Ent)(k:Nat):(pageXs seq need E k).length=20:=by
 have h:=qC (qB E k);have:((padE (partE E k)).flatMap entN).length=16:=by rw[Qw,h]
 simp[pageXs,natsI,pgN,this]
theorem Zf(seq no of b:Nat)(L:List Ent){i:Nat}(hi:i<L.length):rowI (natsI (pgN seq no of b L)) i=natsI (entN (L.getD i Ent.none)):=by
 have h:∀(L:List Ent) (i:Nat),i<L.length->((natsI (L.flatMap entN)).drop (4*i)).take 4=natsI (entN (L.getD i Ent.none)):=by
  intro L
  induction L with
  |nil=>intro i h;simp at h
  |cons x L j=>
   intro i hi;cases i with
   |zero=>rfl
   |succ i=>
    have e:natsI ((x::L).flatMap entN)=natsI (entN x)++natsI (L.flatMap entN):=by simp[natsI]
    rw[e,show 4*(i+1)=(natsI (entN x)).length+4*i by simp[natsI,entN];omega,List.drop_length_add_append];simpa using j i oB
 rw[<-h L i hi];simp only[rowI];rw[<-List.drop_drop];rfl
theorem tH{seq:Nat}{E:List Ent}(v:seq<=1099511627776)(j:∀x∈E,Ze x)(A:needN E.length<=256){k:Nat}(D:k<needN E.length):mayP (pageXs seq (needN E.length) E k)=true:=by
 have n:=qB E k;have F:=qC n;simp only[mayP,qxo,qYt];refine⟨⟨?_,?_⟩,?_⟩
 .simp [withinB,bndP,pageXs,natsI,pgN,inB];omega
 .simp [pageXs,natsI,pgN];omega
 .unfold entsB;rw[qxu];intro i p;have G:i<4:=by simpa using p
  unfold entB;have q:(pageXs seq (needN E.length) E k).getD 3 0=((partE E k).length:Int):=by simp[pageXs,natsI,pgN]
  rw[q];unfold pageXs;rw[Zf _ _ _ _ _ oM];split
  .rename_i hlt
   have b:i<(partE E k).length:=oM;have e:(padE (partE E k)).getD i Ent.none=(partE E k)[i]:=by
    simp[padE,List.getD_eq_getElem?_getD,List.getElem?_append_left b,b]
   rw[e];have s:(partE E k)[i]∈E:=List.mem_of_mem_drop (List.mem_of_mem_take (qyu b));obtain⟨a1,a2,a3⟩:=j _ s;generalize (partE E k)[i]=x at*;simp[withinB,bndE,natsI,entN,inB];have:bitN x.d<=1:=by unfold bitN;split<;>omega
   omega
  .rename_i hge
   have e:(padE (partE E k)).getD i Ent.none=Ent.none:=by
    simp only[padE,qyf];rw[qyh oM,qyn];split<;>rfl
   rw[e];simp[natsI,entN,Ent.none,bitN]
theorem uP(seq:Nat)(E:List Ent)(k:Nat):yk seq E (k+1)=yk seq E k++[sectP (pageXs seq (needN E.length) E k)]:=by simp[yk,List.range_succ]
theorem xM(seq:Nat)(E:List Ent)(k:Nat):(yk seq E k).length=k:=by simp[yk]
theorem Vw(seq:Nat)(E:List Ent)(k:Nat):All64 (yk seq E k):=by
 intro x hx;simp only[yk,qzq]at hx;obtain⟨i,-,rfl⟩:=hx;exact xZ (yX _ _ _ _)
theorem rH(n:Nat)(h2:n<=100000)(w:World):Calls prog 22 #[.int .i64 (n:Int)] w fun e b=>e=.returned (.int .i64 (needN n:Int))/\w=b:=by
 by_cases h1:1<=n
 .exact need_any n h1 h2 w
 .obtain rfl:n=0:=oM;go_enter func22,ntmps22
  go_wp2
  go_ret
  exact⟨rfl,rfl⟩
theorem SX:(prog.info? 54).map (fun i=>(i.zero.map (·.cells.size),i.size,i.bytes))=some (some 64,64,64):=kR
theorem yv:∃i z,prog.info? 54=some i/\i.zero=some z/\z.cells.size=64/\i.size=64/\i.bytes=64:=by
 obtain⟨i,h,b⟩:=qYc.1 SX;simp only[qYe]at b;obtain⟨h1,h2,j⟩:=b;obtain⟨z,k,n⟩:=qYc.1 h1;exact⟨i,z,h,k,n,h2,j⟩
theorem Vx(v:Value)(j:v.cells.size=64)(w:World):(Instr.buildSlice 43 1 #[(0,v)]).run prog w=.ok (.slice (some ⟨w.heap.size,0,none⟩) 1 1) (w.alloc (.cells v.cells 54)):=by
 obtain⟨i,z,k,n,p,hsz,_⟩:=yv;refine run_buildSlice w _ _ 1 _ _ i z underlying43 k n jx jx ?_;obtain⟨a1,a2⟩:=yQ 0 v.cells ((Array.range (1*i.size)).map (z.cells[·%z.cells.size]!));rw[show(#[(0,v)]:Array (Nat×Value)).toList=[(0,v)]from rfl];rw[xw _ _ 0 0 64 v _ jD j jD];show some _=_
 congr 1
 apply qxd
 intro b;rw[a2 b];by_cases q:b<64
 .rw [if_pos ⟨oM,oM,by simp[hsz];omega⟩];rfl
 .rw [if_neg oM,qxf jQ,qxf oM]
theorem zcT(seq no of m:Nat)(L:List Ent)(j:L.length=m)(n:m<=4)(b:List Value)(k:b=[.int .i64 (seq:Int),.int .i64 (no:Int),.int .i64 (of:Int),.int .i64 (m:Int)]++(List.replicate 4 Ent.none).flatMap entC):
  b.take 4++(L.flatMap entC++b.drop (4+(L.flatMap entC).length))=pgC seq no of m (padE L):=by
 subst k;rw[xU,j];have h1:([Value.int .i64 (seq:Int),.int .i64 (no:Int),.int .i64 (of:Int),.int .i64 (m:Int)]++(List.replicate 4 Ent.none).flatMap entC).drop (4+m*4)=(List.replicate (4-m) Ent.none).flatMap entC:=by
  have:m=0\/m=1\/m=2\/m=3\/m=4:=oM;rcases this with rfl|rfl|rfl|rfl|rfl<;>rfl
 rw[h1,pgC,padE,j,qyd];rfl
def pg0(seq k nd m:Nat):Array Value:= #[.int .i64 (seq:Int),.int .i64 (k:Int),.int .i64 (nd:Int),.int .i64 (m:Int),.int .i64 0,.int .i64 0,.bool false,.int .i64 0,.int .i64 0,.int .i64 0,.bool false,.int .i64 0,.int .i64 0,.int .i64 0,.bool false,.int .i64 0,.int .i64 0,.int .i64 0,.bool false,.int .i64 0]
theorem zas{b:Nat}{T:TypeId}(seq k nd m:Nat)(L:List Ent)(h:L.length=m)(j:m<=4)(n:w.heap[b]?=some (.cells ((pg0 seq k nd m).toList.take 4++(L.flatMap entC++(pg0 seq k nd m).toList.drop (4+(L.flatMap entC).length))).toArray T (0,0))):
  w.heap[b]?=some (.cells (pgC seq k nd m (padE L)).toArray T (0,0)):=by
 rw[n,zcT seq k nd m L h j (pg0 seq k nd m).toList rfl]
theorem rI(seq k nd m:Nat):(pg0 seq k nd m).size=20:=rfl
theorem UX(seq no of m:Nat){L:List Ent}(h:L.length=4):(pgC seq no of m L).length=20:=by
 rw[pgC,qyy,xU,h];rfl
theorem Vy{g o:Nat}{E:List Ent}(p:w.rangeAt g o (E.flatMap entC))(k:Nat):w.rangeAt g (o+k*4*4) ((partE E k).flatMap entC):=by
 have q:∀(E:List Ent) (b:Nat),(E.drop b).flatMap entC=(E.flatMap entC).drop (b*4):=by
  intro E
  induction E with
  |nil=>intro b;simp
  |cons x E j=>
   intro b;cases b with
   |zero=>simp
   |succ b=>rw[List.drop_succ_cons,j,qye,show(b+1)*4=(entC x).length+b*4 by rw[qV];omega,List.drop_length_add_append]
 have s:∀(E:List Ent) (b:Nat),(E.take b).flatMap entC=(E.flatMap entC).take (b*4):=by
  intro E
  induction E with
  |nil=>intro b;simp
  |cons x E j=>
   intro b;cases b with
   |zero=>simp
   |succ b=>rw[List.take_succ_cons,qye,j,qye,show(b+1)*4=(entC x).length+b*4 by rw[qV];omega,List.take_length_add_append]
 intro n v h;rw[partE,s,q,qyp]at h;split at h
 .rw [qyi]at h;have:=p _ v h;rw[show o+k*4*4+n=o+(4*k*4+n) by omega];exact this
 .cases h
def xx(w:World)(seq:Nat)(E:List Ent)(e:Ending)(w':World):Prop:=∃v,e=.returned (.tuple #[v,.int .i64 0])/\Sl w' 54 64 v (needN E.length) (rowC (pagesB seq E))/\From w.heap.size v/\Below w.heap.size w w'
theorem Qx(w:World):Calls prog 22 #[.int .i64 0] w fun e b=>e=.returned (.int .i64 1)/\w=b:=rH 0 oM w
theorem sF{P:Program}(w:World)(h n p b:TypeId)(k g o:Nat)(q s:Nat)(v:P.underlying h=some (.slice b))(A:(P.info? b).map (·.size)=some k):
  (Builtin.copy_ #[h,n] p #[.slice (some ⟨g,o,none⟩) q s,.slice none 0 0]).run P w=.ok (.int .i64 0) w:=by
 cases j:P.info? b with
 |none=>simp[j]at A
 |some i=>simp[Builtin.copy_,run_underlying v,Builtin.lenOf,Builtin.firstCells,sizeOf,typeInfo,j,storeCells,goInt]
theorem zcU(seq:Nat):(pg0 seq 0 1 0)=(pgC seq 0 1 0 (padE (partE [] 0))).toArray:=rfl
theorem wV{h:Array Oper}{rest:List Oper}{op:Oper}{a:Act}{Q:Exit->Act->World->Prop}(j:op.guard=none)(p q r s:Operand)(n:op.op=.build 263 #[(0,p),(1,q),(2,r),(3,s)])
  (x k nd m:Nat) (v:a.eval p=.int .i64 (x:Int)) (A:a.eval q=.int .i64 (k:Int)) (D:a.eval r=.int .i64 (nd:Int)) (E:a.eval s=.int .i64 (m:Int)) (b:Array Value) (F:b=pg0 x k nd m)
  (G:wpList prog h Q rest (a.put op.dst (.agg b)) w):wpList prog h Q (op::rest) a w:=by
 have H:(Instr.build 263 #[(0,.int .i64 (x:Int)),(1,.int .i64 (k:Int)),(2,.int .i64 (nd:Int)),(3,.int .i64 (m:Int))]).run prog w=.ok (.agg b) w:=by
  rw[F];kernel_rfl
 refine qZb j fun K J=>?_;unfold Oper.wp;simp only[execOp,n,qzk,qzh,qzj,v,A,D,E,qYg,H,qYf];exact J _ _ G
theorem we(F:List Bk)(x:Bk):rowC (F++[x])=rowC F++bkC x:=by simp[rowC]
theorem Vz{g o n c:Nat}(E:List Ent)(av:E.length=n)(h1:1<=n)(h2:n<=1024)(Z:w.rangeAt g o (E.flatMap entC))(bi:n<=c)(b1:c<=maxLen)(seq:Nat)(aw:seq<=1099511627776)(ax:∀x∈E,Ze x)(ay:Nib w):
  Calls prog 98 #[.int .i64 (seq:Int),.slice (some ⟨g,o,none⟩) n c] w (xx w seq E):=by
 obtain⟨a6,V,q⟩:=qYc.1 SX;simp only[qYe]at q;obtain⟨az,a7,v⟩:=q;obtain⟨z,a8,aA⟩:=qYc.1 az;have b2:needN n<=256:=by unfold needN;omega
 obtain⟨A,aB,b3⟩:∃A:Array Value,A.size=needN n*64/\∀w:World,(Instr.makeSlice 43 (.int .i64 0) (.int .i64 (needN n:Int))).run prog w=.ok (.slice (some ⟨w.heap.size,0,none⟩) 0 (needN n)) (w.alloc (.cells A 54)):=by
  refine⟨madeCells z.cells (needN n*64),by simp[size_madeCells],fun w=>?_⟩;have:=run_make (P:=prog) w 43 54 a6 z underlying43 V a8 .i64 .i64 0 (needN n) oM oM (by rw[v];omega) oM;rw[this];simp only[qxs,a7];rfl
 have s:=Y5 V a8 aA a7 v;have p:=Y6 Z aw ax ay av aB;have bj:g<w.heap.size:=by
  have:=Z 0 (.int .i64 ((E[0]'oM).b:Int)) (by
   have b4:0<E.length:=oM;obtain⟨x,l,rfl⟩:∃x l,E=x::l:=by cases E with|nil=>simp at b4|cons x l=>exact⟨x,l,rfl⟩
   rfl)
  exact(zH this).2
 have bk:1<=needN n:=by unfold needN;omega
 have aC:∀j,j<needN n->4*j<n:=fun j aD=>by unfold needN at aD;omega
 have b5:needN n<=n:=by unfold needN;omega
 have b6:=Y2 aC b5;unfold maxLen at b1;clear Z aw ax ay av V a8 aA az a7 v aB aC;generalize aa:needN n=nd at*;have O:=qqh aa;go_enter func98,ntmps98
 go_wp2_with (first
  |(go_at_call 22;refine(rH n oM _).mono ?_;rintro e bl ⟨rfl,rfl⟩;rw[aa];clear aa)
  |fail)
 have Q:=zc w (.cells A 54) rfl;have q:Below w.heap.size w (w.alloc (.cells A 54)):=(qxl _ w).alloc (qXp _) _;have aE:Sl (w.alloc (.cells A 54)) 54 64 (.slice (some ⟨w.heap.size,0,none⟩) 0 nd) 0 (rowC (yk seq E 0)):=
  ⟨by simp[yk,rowC],.inr ⟨w.heap.size,0,nd,_,rfl,Q,qXz _,by unfold maxLen;omega,by rw[p.o.2.2.2.2.2];omega,by simp[yk,rowC]⟩⟩
 have aF:From w.heap.size (.slice (some ⟨w.heap.size,0,none⟩) 0 nd):=fun g b7=>by simp[Value.ownBlock]at b7;omega
 generalize w.alloc (.cells A 54)=w1 at*;have ab:=Y3 aE aF q;clear Q q aE aF b3;go_loopw[7,21] (fun aG ad wr=>∃j:Nat,j<=nd/\ad=.int .i64 j/\Sl wr 54 64 aG j (rowC (yk seq E j))/\From w.heap.size aG/\Below w.heap.size w wr) (fun _ ad _=>nd-(intOf ad).toNat)
 case atStart=>exact⟨0,oM,rfl,ab.o.1,ab.o.2.1,ab.o.2.2⟩
 case round=>
  obtain⟨j,aD,rfl,hsl,W,D⟩:=hrel;by_cases hlt:j<nd
  .have bn:=b6.o.1 j hlt;have bo:(0:Int)<=(j:Int):=oM;have J:=Y3 hsl W D;obtain⟨ae,af,rfl⟩:=hsl.rd.jW;obtain⟨m,K⟩:=qqe ((partE E j).length);have aH:m=min 4 (n-4*j):=by rw[K,partE,qzf,qza,p.o.2.2.2.2.1]
   have aI:m<=4:=oM;have aJ:Nat.min m 4=m:=Nat.min_eq_left aI;obtain⟨F,R⟩:∃F:List Value,F.toArray=pg0 seq j nd m:=⟨(pg0 seq j nd m).toList,rfl⟩
   have ag:F.length=20:=(congrArg Array.size R).trans (rI seq j nd m);have aK:∀G∈F,G.oneCell'=true:=by
    intro G ah;have aL:G∈pg0 seq j nd m:=by rw[<-R];simpa using ah
    simp only[pg0,Array.mem_def,qzm,qzy,qYv]at aL;rcases aL with rfl|rfl|rfl|rfl|rfl|rfl|rfl|rfl|rfl|rfl|rfl|rfl|rfl|rfl|rfl|rfl|rfl|rfl|rfl|rfl<;>rfl
   obtain⟨ai,X⟩:=qqe (wr.alloc (.cells F.toArray 263));have Q:ai.heap[wr.heap.size]?=some (.cells (pg0 seq j nd m) 263):=by rw[X,<-R];exact zc wr _ rfl
   have aj:=qqu X;have q:Below w.heap.size w ai:=D.trans ((Upd.below aj).mono D.size);have aM:=Vy (Below.range q p.o.1) j;obtain⟨b8,ak,S,am,b9⟩:=tu (P:=prog) ai 123 123 132 4 wr.heap.size 4 4 4 ⟨g,o+j*4*4,none⟩ m m _ _ ((partE E j).flatMap entC) underlying123 ZL Q (by rw[xU,<-K,aJ])
    (fun T G an=>by rw[qxa];exact aM T G an) (by rw[xU,<-K,rI];omega) (fun G ah=>by obtain⟨x,-,hx⟩:=qzp.1 ah;exact Xm x G hx)
   replace S:=zas seq j nd m (partE E j) K.symm aI S;rw[aJ]at ak;rw[X]at ak;have ao:=qC (qB E j);have aN:=zf S;have ba:(prog.info? 263).map (·.size)=some (pgC seq j nd m (padE (partE E j))).length:=by rw[UX _ _ _ _ ao];exact wZ
   have v:Below w.heap.size w b8:=zj q am (qXp _) (fun T e=>by have:=D.size;omega);have aO:=XD (p.o.2.2.2.1.below v) (pgC seq j nd m (padE (partE E j))) (UX _ _ _ _ ao) (pageXs seq nd E j) (yX _ _ _ _) (fun bp=>by rw[pageXs,<-K];exact zbZ seq j nd m _ ao);have bb:Hid (mayP (pageXs seq nd E j)=true):=by
    show _=_;have:=tH (seq:=seq) (E:=E) (k:=j) p.o.2.1 p.o.2.2.1 (by rw[p.o.2.2.2.2.1,O.o];exact b2) (by rw[p.o.2.2.2.2.1,O.o];exact hlt);rw[p.o.2.2.2.2.1,O.o]at this;exact this
   have aP:=hsl.keep ((aj.mono fE).new am (S':=fun T=>T=wr.heap.size) (fun i V e=>e)) (fun T an e=>by have:=hsl.lt an;omega);have ap:=Y3 R ag aK;have bc:Hid ((prog.info? 263).map (·.size)=some F.length):=by show _=_;rw[ag];exact wZ
   have Y:=Y5 aO aP v S aH;clear hsl W D aO aP v S am b9 aj q aM Q K X aH R ag aK;have bd:((j:Int)*4+4<=(n:Int)/\j*4+4-j*4=m/\((j:Int)*4+4).toNat=j*4+4/\(j:Int)*4<=(j:Int)*4+4/\(j:Int)*4+4<=(c:Int))\/(¬(j:Int)*4+4<=(n:Int)/\n-j*4=m/\(j:Int)*4<=(n:Int)/\(n:Int)<=(c:Int)/\(n:Int)<(j:Int)*4+4):=by
    have:=Y.o.2.2.2.2;by_cases aQ:(j:Int)*4+4<=(n:Int)
    .exact .inl ⟨aQ,oM,oM,oM,oM⟩
    .exact .inr ⟨aQ,oM,oM,oM,oM⟩
   obtain⟨y,hy⟩:=qqe (sectP (pageXs seq nd E j));have aq:(bkC y).length=64:=by rw[zn,hy];exact xZ (yX _ _ _ _)
   have aR:Hid ((prog.info? 54).map (·.size)=some (bkC y).length):=by show _=_;rw[aq];exact zI
   have H:=Y3 hy aq (zu y);clear hy aq;rcases bd with⟨q1,q2,aS,aT,aU⟩|⟨q1,q2,aS,aT,aU⟩
   all_goals
    go_wp2_with (first
     |(refine wV rfl _ _ _ _ rfl seq j nd m oA oA oA oA F.toArray ap.o.1 ?_)
     |(refine zk rfl _ _ _ rfl _ _ _ rfl rfl (by rw[ap.o.2.1];rfl) bc.out ap.o.2.2 ?_)
     |(refine qZa rfl _ _ rfl _ _ rfl _ _ aN underlying263 rfl ba ?_)
     |fail)
    refine Y.o.1.mono ?_;rintro e L ⟨aV,aW⟩;obtain rfl:e=.returned (.tuple #[.agg (bkC y).toArray,.int .i64 0]):=by
     rcases aV with⟨-,h⟩|⟨h,-⟩
     .rw [h,H.o.1]
     .rw [bb.out]at h;cases h
    have aX:=zc L (.cells (bkC y).toArray 54) rfl;have aY:=zf aX;have ar:=qqb aW;have au:Upd (fun _=>False) L (L.alloc (.cells (bkC y).toArray 54)):=(uur _ _).alloc _;have be:=qqh ((Y.o.2.1.keep ar (fun _ _ h=>h)).keep au (fun _ _ h=>h));have aZ:=Y2 ar au;clear aV aW ar au aX q1 q2 aS aT aU ak aN;go_wp2_with (first
     |(refine zk rfl _ _ _ rfl _ _ _ rfl rfl (by rw[H.o.2.1];rfl) aR.out H.o.2.2 ?_)
     |(refine qZa rfl _ _ rfl _ _ rfl _ _ aY underlying54 rfl aR.out ?_)
     |(refine yD rfl 43 54 _ rfl 64 de underlying43 ⟨a6,z,s.o.1,s.o.2.1,s.o.2.2.1,s.o.2.2.2.1⟩ de (bkC y) rfl H.o.2.1 ?_)
     |(at_builtin;refine zK rfl _ _ _ rfl a6 z 64 underlying43 s.o.1 s.o.2.1 s.o.2.2.2.1 s.o.2.2.2.2 s.o.2.2.1 de rfl be.out (bkC y) oA H.o.2.1 H.o.2.2 oh oM ?_;intro bf bg U M N)
     |fail)
    replace M:Upd (ownS (.slice ae j af)) (L.alloc (.cells (bkC y).toArray 54)) bg:=M;replace N:blockFrom (L.alloc (.cells (bkC y).toArray 54)) (.slice ae j af) bf:=N;have bh:=Y3 U M N;clear U M N aY;go_roundw
    case rel=>
     obtain⟨U,M,N⟩:=bh.o;have b0:Below w.heap.size w (L.alloc (.cells (bkC y).toArray 54)):=zj Y.o.2.2.1 (aZ.o.1.trans aZ.o.2) (qXp _) (fun _ h=>h.elim);refine⟨j+1,oM,by go_num,?_,N.ge b0.size J.o.2.1,zj b0 M (qXp _) J.o.2.1.own⟩;rw[uP,p.o.2.2.2.2.1,O.o,we];rw[H.o.1]at U;exact U
    case measure=>simp[intOf];omega
  .obtain rfl:j=nd:=oM;have J:=Y3 hsl W D;obtain⟨ae,af,rfl⟩:=hsl.rd.jW;clear hsl W D;go_wp2
   go_ret2
   exact⟨_,rfl,by unfold pagesB;rw[p.o.2.2.2.2.1,O.o];exact J.o.1,J.o.2.1,J.o.2.2⟩
theorem Zg(seq:Nat)(ab:seq<=1099511627776)(ad:Nib w):
  Calls prog 98 #[.int .i64 (seq:Int),.slice none 0 0] w (xx w seq []):=by
 obtain⟨L,z,M,N,ae,O,Q⟩:=yv;obtain⟨p,af,aD⟩:∃p:Array Value,p.size=64/\∀w:World,(Instr.makeSlice 43 (.int .i64 0) (.int .i64 1)).run prog w=.ok (.slice (some ⟨w.heap.size,0,none⟩) 0 1) (w.alloc (.cells p 54)):=by
  refine⟨madeCells z.cells (1*64),by simp[size_madeCells],fun w=>?_⟩;have:=run_make (P:=prog) w 43 54 L z underlying43 M N .i64 .i64 0 1 oM oM (by rw[Q];omega) oM;rw[this];simp only[O];rfl
 have j:=Y5 M N ae O Q;have R:=Y3 ab ad af;have aE:=fun(w:World) (g:Nat) (aF:TypeId)=>sF (P:=prog) w 123 123 aF 132 4 g 4 4 4 underlying123 ZL;clear M N ae O Q ab ad af;go_enter func98,ntmps98
 go_wp2_with (first
  |(go_at_call 22;refine(Qx _).mono ?_;rintro e aN ⟨rfl,rfl⟩)
  |fail)
 have ag:=zc w (.cells p 54) rfl;have ah:Below w.heap.size w (w.alloc (.cells p 54)):=(qxl _ w).alloc (qXp _) _;have ai:Sl (w.alloc (.cells p 54)) 54 64 (.slice (some ⟨w.heap.size,0,none⟩) 0 1) 0 (rowC (yk seq [] 0)):=
  ⟨by simp[yk,rowC],.inr ⟨w.heap.size,0,1,_,rfl,ag,qXz _,by unfold maxLen;omega,by rw[R.o.2.2];omega,by simp[yk,rowC]⟩⟩
 have aj:From w.heap.size (.slice (some ⟨w.heap.size,0,none⟩) 0 1):=fun g aG=>by simp[Value.ownBlock]at aG;omega
 generalize w.alloc (.cells p 54)=w1 at*;have S:=Y3 ai aj ah;clear ag ah ai aj aD;go_loopw[7,21] (fun ak T wr=>∃n:Nat,n<=1/\T=.int .i64 n/\Sl wr 54 64 ak n (rowC (yk seq [] n))/\From w.heap.size ak/\Below w.heap.size w wr) (fun _ T _=>1-(intOf T).toNat)
 case atStart=>exact⟨0,oM,rfl,S.o.1,S.o.2.1,S.o.2.2⟩
 case round=>
  obtain⟨n,aO,rfl,hsl,J,v⟩:=hrel;by_cases hlt:n<1
  .obtain rfl:n=0:=oM;have A:=Y3 hsl J v;obtain⟨U,V,rfl⟩:=hsl.rd.jW;obtain⟨b,G⟩:∃b:List Value,b.toArray=pg0 seq 0 1 0:=⟨(pg0 seq 0 1 0).toList,rfl⟩
   have K:b.length=20:=(congrArg Array.size G).trans (rI seq 0 1 0);have am:∀W∈b,W.oneCell'=true:=by
    intro W aH;have an:W∈pg0 seq 0 1 0:=by rw[<-G];simpa using aH
    simp only[pg0,Array.mem_def,qzm,qzy,qYv]at an;rcases an with rfl|rfl|rfl|rfl|rfl|rfl|rfl|rfl|rfl|rfl|rfl|rfl|rfl|rfl|rfl|rfl|rfl|rfl|rfl|rfl<;>rfl
   have X:Upd (fun _=>False) wr (wr.alloc (.cells b.toArray 263)):=(uur _ wr).alloc _;have ao:=zf (zc wr (.cells b.toArray 263) rfl);have Y:Below w.heap.size w (wr.alloc (.cells b.toArray 263)):=v.trans ((Upd.below X).mono v.size);have ap:b=pgC seq 0 1 0 (padE (partE [] 0)):=by have:=congrArg Array.toList (G.trans (zcU seq));simpa using this
   have aq:(padE (partE [] 0)).length=4:=rfl;have ar:=XD (R.o.2.1.below Y) b K (pageXs seq 1 [] 0) (yX _ _ _ _) (fun aP=>by rw[ap];exact zbZ seq 0 1 0 _ aq);have aI:Hid (mayP (pageXs seq 1 [] 0)=true):=tH (seq:=seq) (E:=[]) (k:=0) R.o.1 oe de de;have au:=hsl.keep X (fun _ _ h=>h);have Z:=Y3 G K am;have av:Hid ((prog.info? 263).map (·.size)=some b.length):=by show _=_;rw[K];exact wZ
   have a6:=Y3 ar au Y;obtain⟨y,hy⟩:=qqe (sectP (pageXs seq 1 [] 0));have a7:(bkC y).length=64:=by rw[zn,hy];exact xZ (yX _ _ _ _)
   have aw:Hid ((prog.info? 54).map (·.size)=some (bkC y).length):=by show _=_;rw[a7];exact zI
   have q:=Y3 hy a7 (zu y);clear hsl J v ar au Y X G K am ap aq hy a7;simp only[Int.natCast_zero]at*;go_wp2_with (first
    |(refine wV rfl _ _ _ _ rfl seq 0 1 0 oA oA oA oA b.toArray Z.o.1 ?_)
    |(refine zk rfl _ _ _ rfl _ _ _ rfl rfl (by rw[Z.o.2.1];rfl) av.out Z.o.2.2 ?_)
    |(refine qZa rfl _ _ rfl _ _ rfl _ _ ao underlying263 rfl av.out ?_)
    |fail)
   refine a6.o.1.mono ?_;rintro e s ⟨ax,ay⟩;obtain rfl:e=.returned (.tuple #[.agg (bkC y).toArray,.int .i64 0]):=by
    rcases ax with⟨-,h⟩|⟨h,-⟩
    .rw [h,q.o.1]
    .rw [aI.out]at h;cases h
   have az:=zc s (.cells (bkC y).toArray 54) rfl;have aA:=zf az;have a8:Upd (fun _=>False) (wr.alloc (.cells b.toArray 263)) s:=uuo ay;have aa:Upd (fun _=>False) s (s.alloc (.cells (bkC y).toArray 54)):=(uur _ _).alloc _;have aJ:=qqh ((a6.o.2.1.keep a8 (fun _ _ h=>h)).keep aa (fun _ _ h=>h));have aB:=Y2 a8 aa;clear ax ay a8 aa az aE ao;go_wp2_with (first
    |(refine zk rfl _ _ _ rfl _ _ _ rfl rfl (by rw[q.o.2.1];rfl) aw.out q.o.2.2 ?_)
    |(refine qZa rfl _ _ rfl _ _ rfl _ _ aA underlying54 rfl aw.out ?_)
    |(refine yD rfl 43 54 _ rfl 64 de underlying43 ⟨L,z,j.o.1,j.o.2.1,j.o.2.2.1,j.o.2.2.2.1⟩ de (bkC y) rfl q.o.2.1 ?_)
    |(at_builtin;refine zK rfl _ _ _ rfl L z 64 underlying43 j.o.1 j.o.2.1 j.o.2.2.2.1 j.o.2.2.2.2 j.o.2.2.1 de rfl aJ.out (bkC y) oA q.o.2.1 q.o.2.2 oh oM ?_;intro aK aL H D F)
    |fail)
   replace D:Upd (ownS (.slice U 0 V)) (s.alloc (.cells (bkC y).toArray 54)) aL:=D;replace F:blockFrom (s.alloc (.cells (bkC y).toArray 54)) (.slice U 0 V) aK:=F;have aM:=Y3 H D F;clear H D F aA;go_roundw
   case rel=>
    obtain⟨H,D,F⟩:=aM.o;have aC:Below w.heap.size w (s.alloc (.cells (bkC y).toArray 54)):=zj a6.o.2.2 (aB.o.1.trans aB.o.2) (qXp _) (fun _ h=>h.elim);refine⟨1,oM,by go_num,?_,F.ge aC.size A.o.2.1,zj aC D (qXp _) A.o.2.1.own⟩;rw[uP,we];rw[q.o.1]at H;exact H
   case measure=>simp[intOf]
  .obtain rfl:n=1:=oM;have A:=Y3 hsl J v;obtain⟨U,V,rfl⟩:=hsl.rd.jW;clear hsl J v;go_wp2
   go_ret2
   exact⟨_,rfl,A.o.1,A.o.2.1,A.o.2.2⟩
section
open Go.Shelf
attribute [local go_sem] qYb
theorem Dv.exact{S:Nat->Prop}{w:World}{b:Nat}{F:List Bk}{O:List (Nat×Bk)}{P:List Int}(j:Dv S w b F O P):∃k:Nat->Prop,Dv k w b F O P/\(∀h,k h->S h)/\∀h,k h->∃cs t z,w.heap[h]?=some (.cells cs t z):=by
 obtain⟨p,q,s,j,v⟩:=j;exact⟨dvS b p q s,⟨p,q,s,j,fun _ n=>n⟩,v,fun h n=>by obtain⟨cs,t,A⟩:=j.cells h n;exact⟨cs,t,_,A⟩⟩
theorem SY(base i:Nat)(B:List Bk):ckO base (i+1) B=ckO base i B++[YN base B i]:=by simp[ckO,List.range_succ]
theorem zau(base i:Nat)(B:List Bk):(ckO base i B).length=i:=by simp[ckO]
end
end Go.Proofs.YtbnpkobbnjihjaaGreatDoor
