/- The forms of r -/
import Derived.Test.YtfhfbpmlnjdfoaaGreatDoorG09
import Derived.Laws.CopyRow
import Derived.Shelf.Bits.Mul64
set_option maxRecDepth 100000
set_option maxHeartbeats 4000000
namespace Go.Proofs.YtfhfbpmlnjdfoaaGreatDoor
open Go Go.RowKit Tryz
theorem wD{P:Prop}(h:P:=by
 have hmf:=qqf;go_enter q1f,q2f
 go_wp2_with fail
 refine(uI).mono ?_;rintro e w1 ⟨rfl,rfl⟩;go_wp2
 obtain⟨h1,h2,h3,h4,h5,h6,h7⟩:=Qe w (.cells #[.int .i64 n3f,.slice (some ⟨w.heap.size+1+1+1+1,0,none⟩) TK TK,.func (.func n5f) #[] #[],.func (.func n6f) #[] #[.pointer (some ⟨w.heap.size+1+1+1,0,none⟩)],.func (.func n7f) #[] #[]] n8f)
  (.cells (bndC d9f).toArray 219) (.cells #[.slice (some ⟨w.heap.size+1,0,none⟩) SY SY] 321) (.cells #[.func (.func 196) #[] #[.pointer (some ⟨w.heap.size+1+1,0,none⟩)]] 134) (.cells (ints (natsI d11f)).toArray 3)
 refine qYw (zN rfl _ _ w.heap.size 0 [.int .i64 n3f,.slice (some ⟨w.heap.size+1+1+1+1,0,none⟩) TK TK,.func (.func n5f) #[] #[],.func (.func n6f) #[] #[.pointer (some ⟨w.heap.size+1+1+1,0,none⟩)],.func (.func n7f) #[] #[]] _ rfl (zh h1) zbf rfl zbg) rfl
  ⟨w.heap.size+1+1+1+1,w.heap.size+1+1+1,rfl,⟨zh h5,_,za h4 0,w.heap.size+1+1,w.heap.size+1,SY,rfl,za h3 0,zh h2⟩,Upd.below h7⟩):P:=h
theorem ui{P:Prop}(h:P:=by
 obtain⟨hs,v,hv,hB⟩:=hF;have hcz:(prog.info? n14f).map (·.size)=some cs.length:=by rw[hcs];exact Ae
 have htell':∀W,Below w.heap.size w W->Calls prog n5f (#[.agg cs.toArray]++ #[]) W (zQ W TK xs):=fun W _=>htell W;have hmay:∀W gl cc,TK<=cc->cc<=maxLen->Below w.heap.size w W->W.rangeAt gl 0 (ints xs)->Calls prog n6f (#[.slice (some ⟨gl,0,none⟩) TK cc]++ #[.pointer (some ⟨gt,0,none⟩)]) W fun e W'=>e=.returned (.bool (d16f xs))/\Below W.heap.size W W':=fun W gl cc hc hc2 hW hr=>
  zbh xs hxl hc hc2 ((uuo (S:=fun _=>False) hW).ja hv (fun h=>h)) (hB.below hW) hr
 cases hm:d16f xs with
 |false=>
  rw[hm]at hmay;exact(zbi (w:=w) n3f xs TK gs TK n5f n6f #[] #[.pointer (some ⟨gt,0,none⟩)] (.func (.func n7f) #[] #[]) rfl cs hcz (fun _ _=>rfl) (fun _ _=>rfl) htell' hmay).mono
   (fun e w' ⟨he,hb⟩=>⟨.inr ⟨hm,he⟩,hb⟩)
 |true=>
  rw[hm]at hmay;obtain⟨h0,hfit⟩:=zbj hxl hm;have e:numsL (numL d11f xs)=xs:=uJ (by rw[hxl];rfl) h0;rw[<-e]at htell' hmay;exact(zbk (w:=w) n3f (by decide) (numL d11f xs) hfit TK (by rw[qE (by rw[hxl];rfl)];rfl) (by decide) gs TK n5f n6f #[] #[.pointer (some ⟨gt,0,none⟩)] (.func (.func n7f) #[] #[]) rfl cs hcz (by rw[YD (by rw[hxl];rfl)];exact hs) hN (fun _ _=>rfl) (fun _ _=>rfl) htell' hmay).mono
   (fun e w' ⟨he,hb⟩=>⟨.inl ⟨hm,he⟩,hb⟩)):P:=h
theorem uj{P:Prop}(h:P:=by
 have HN:=Y2 hN htell;have hcz:(prog.info? n14f).map (·.size)=some cs.length:=by rw[hcs];exact Ae
 have HC:=qqh hcz;have hr:((w.alloc (.cells cs.toArray n14f)).alloc (.cells (bkC zB).toArray 54)).rangeAt w.heap.size 0 cs:=qYp (zh (zc w _ rfl)) _;clear hN htell hcz;go_enter zbl,zbm
 go_wp2_with fail
 change Code.wp _ _ _ _ ((w.alloc (.cells cs.toArray n14f)).alloc (.cells (bkC zB).toArray 54))
 have hg:((w.alloc (.cells cs.toArray n14f)).alloc (.cells (bkC zB).toArray 54)).heap[w.heap.size+1]?=some (.cells (bkC zB).toArray 54):=zc _ _ (by simp);have hu:Upd (fun _=>False) w ((w.alloc (.cells cs.toArray n14f)).alloc (.cells (bkC zB).toArray 54)):=((uur _ w).alloc _).alloc _;generalize (w.alloc (.cells cs.toArray n14f)).alloc (.cells (bkC zB).toArray 54)=w2 at*;have hb2:Below w.heap.size w w2:=Upd.below hu;refine qZj (S:=fun W=>W.rangeAt w.heap.size 0 cs) (by kernel_rfl) (by rw[qYq];exact hr) (fun hHeld=>?_);refine Wl.l 1 (fun w h=>h) zbn HC.o hHeld ?_;refine Wl.r 0 (fun K hK=>?_);go_simp
 refine(zbo _).mono ?_;rintro e w3 ⟨gs,gt,rfl,hF,hb3⟩;have hb3':Below w2.heap.size w2 w3:=yy hb3;refine hK.o _ _ (Below.range hb3 hHeld) (fun hHeld2=>?_);clear hK K;refine Wl.r 2 (fun K hK=>?_);go_simp
 refine(zbp hF ((HN.o.1.keep hu (fun h=>h)).below hb3') cs hcs xs hxl HN.o.2).mono ?_;rintro e w4 ⟨he,hb4⟩;have hb4':Below w2.heap.size w2 w4:=hb3'.trans (hb4.mono hb3'.size);have hg4:=(hb4'.block _ (zf hg)).trans hg;have hth:w4.there (w.heap.size+1) 0 64:=fun j hj=>by
  rw[za hg4,zg hg4];exact⟨by rw[qYe,qxe (by rw[zo _ zH];exact hj)];rfl,rfl⟩
 obtain⟨y,cd,hy,hres,rfl⟩:∃(y:Bk) (cd:Int),y.length=64/\((d16f xs=true/\y=zbq xs/\cd=0)\/(d16f xs=false/\y=zB/\cd=10))/\e=.returned (.tuple #[.agg (bkC y).toArray,.int .i64 cd]):=by
  rcases he with⟨hm,rfl⟩|⟨hm,rfl⟩
  .exact ⟨_,0,zbr hxl,.inl ⟨hm,rfl,rfl⟩,rfl⟩
  .exact ⟨_,10,zH,.inr ⟨hm,rfl,rfl⟩,rfl⟩
 have HR:=Y2 hy hres;clear he hy hres;have hst:w4.there (w.heap.size+1) 0 (bkC y).toArray.size:=by rw[zo _ HR.o.1];exact hth
 have hst2:w4.there (w.heap.size+1) 0 (bkC y).length:=by rw[zn,HR.o.1];exact hth
 have hsz2:(prog.info? 54).map (·.size)=some (bkC y).toArray.size:=by rw[zo _ HR.o.1];exact zM
 refine hK.o _ _ (Below.range hb4 hHeld2) (fun hHeld3=>?_);clear hK K;refine Wl.i [3,4] ?_;iterate 2 refine Wl.t hHeld3 ?_
 refine Wl.o ?_;have hU5:Below w.heap.size w (w4.setCells (w.heap.size+1) 0 (bkC y)):=zl (hb2.trans (hb4'.mono hu.size)) (zq w4 (w.heap.size+1) 0 _) (qXv _) (fun k e=>by omega);refine Wl.r 5 (fun K hK=>?_);rw[if_pos (by rfl)];refine qZk _ _ _ rfl _ _ (List.toArray _) rfl rfl (hst) (hsz2) (qYu (zv _)) ?_;simp only[Act.put,qXi];refine hK.o _ _ ((zq w4 (w.heap.size+1) 0 (bkC y)).range hHeld3 (by omega)) (fun hHeld4=>?_);clear hK K;refine Wl.r 6 (fun K hK=>?_);go_simp
 refine hK.o _ _ (hHeld4) (fun _=>?_);clear hK K;refine Wl.d ?_;have HE:=Y2 hU5 hst2;clear hst hst2 hsz2 hU5 hth hg4 hb4 hb4' hb3 hb3' hHeld hHeld2 hHeld3 hHeld4 hF hr hg hu hb2;go_wp2
 refine qYw (zp rfl _ _ (w.heap.size+1) 0 (bkC y) _ rfl (qYr _ _ _ _ HE.o.2) underlying54 rfl (zw _ HR.o.1)) rfl ⟨?_,HE.o.1⟩;rcases HR.o.2 with⟨hm,rfl,rfl⟩|⟨hm,rfl,rfl⟩
 .exact .inl ⟨hm,rfl⟩
 .exact .inr ⟨hm,rfl⟩):P:=h
def Ux:List Nat:=[6,6,1,2,2,1,4]
def Wb(gs gt:Nat):Value:=.agg #[.int .i64 2,.slice (some ⟨gs,0,none⟩) 7 7,.func (.func 250) #[] #[],.func (.func 252) #[] #[.pointer (some ⟨gt,0,none⟩)],.func (.func 253) #[] #[]]
def Qj(w:World)(gs gt:Nat):Prop:=w.rangeAt gs 0 (ints (natsI Ux))/\∃v,w.cell? ⟨gt,0,none⟩=some v/\Bnd w v bndR
theorem Vv:(prog.info? 296).map (·.size)=some 5:=by kernel_rfl
theorem infoThR:(prog.info? 101).map (·.size)=some 7:=by kernel_rfl
namespace fFormR2
theorem q1f:type_of% @func178:= @func178
theorem q2f:type_of% @ntmps178:= @ntmps178
abbrev n3f:Nat:=2
abbrev TK:Nat:=7
abbrev n5f:Nat:=250
abbrev n6f:Nat:=252
abbrev n7f:Nat:=253
abbrev n8f:Nat:=296
abbrev d9f:= @bndR
abbrev SY:Nat:=7
abbrev d11f:= @Ux
theorem zbf:type_of% @underlying296:= @underlying296
theorem zbg:type_of% @Vv:= @Vv
end fFormR2
open fFormR2 in
theorem xC(w:World):Calls prog 178 #[] w fun e w'=>∃gs gt,e=.returned (Wb gs gt)/\Qj w' gs gt/\Below w.heap.size w w':=wD
def sectR(xs:List Int):Bk:=sectB 2 (numL Ux xs)
theorem uO{xs:List Int}(h:xs.length=7):(sectR xs).length=64:=vj (by rw[wk (by rw[h];rfl)];decide)
def YI(w:World)(xs:List Int)(e:Ending)(w':World):Prop:=
 ((mayR xs=true/\e=.returned (.tuple #[.agg (bkC (sectR xs)).toArray,.int .i64 0]))\/(mayR xs=false/\e=.returned (.tuple #[.agg (bkC zB).toArray,.int .i64 10])))/\Below w.heap.size w w'
namespace fFormR2
abbrev n14f:Nat:=101
theorem Ae:type_of% @infoThR:= @infoThR
abbrev d16f:= @mayR
theorem zbh:type_of% @qH:= @qH
theorem zbi:type_of% @Vs:= @Vs
theorem zbj:type_of% @uL:= @uL
theorem zbk:type_of% @YF:= @YF
end fFormR2
open fFormR2 in
theorem YJ{w:World}{gs gt:Nat}(hF:Qj w gs gt)(hN:Nib w)(cs:List Value)(hcs:cs.length=7)(xs:List Int)(hxl:xs.length=7)
  (htell:∀W,Calls prog 250 #[.agg cs.toArray] W (zQ W 7 xs)):
  Calls prog 326 #[Wb gs gt,.agg cs.toArray] w (YI w xs):=ui
namespace fFormR2
theorem zbl:type_of% @func304:= @func304
theorem zbm:type_of% @ntmps304:= @ntmps304
theorem zbn:type_of% @underlying101:= @underlying101
theorem zbo:type_of% @xC:= @xC
theorem zbp:type_of% @YJ:= @YJ
abbrev zbq:= @sectR
theorem zbr:type_of% @uO:= @uO
end fFormR2
open fFormR2 in
theorem Qk{w:World}(hN:Nib w)(cs:List Value)(hcs:cs.length=7)(xs:List Int)(hxl:xs.length=7)
  (htell:∀W,Calls prog 250 #[.agg cs.toArray] W (zQ W 7 xs)):
  Calls prog 304 #[.agg cs.toArray] w (YI w xs):=uj
def Vw:List Nat:=[6,2,2,1,2,2,1,4,2,2,1,4,2,2,1,4,2,2,1,4]
def Wc(gs gt:Nat):Value:=.agg #[.int .i64 3,.slice (some ⟨gs,0,none⟩) 20 20,.func (.func 307) #[] #[],.func (.func 308) #[] #[.pointer (some ⟨gt,0,none⟩)],.func (.func 310) #[] #[]]
def Ql(w:World)(gs gt:Nat):Prop:=w.rangeAt gs 0 (ints (natsI Vw))/\∃v,w.cell? ⟨gt,0,none⟩=some v/\Bnd w v bndP
theorem Vx:(prog.info? 380).map (·.size)=some 5:=by kernel_rfl
theorem wn:(prog.info? 280).map (·.size)=some 20:=by kernel_rfl
namespace fFormP2
theorem q1f:type_of% @func246:= @func246
theorem q2f:type_of% @ntmps246:= @ntmps246
abbrev n3f:Nat:=3
abbrev TK:Nat:=20
abbrev n5f:Nat:=307
abbrev n6f:Nat:=308
abbrev n7f:Nat:=310
abbrev n8f:Nat:=380
abbrev d9f:= @bndP
abbrev SY:Nat:=4
abbrev d11f:= @Vw
theorem zbf:type_of% @underlying380:= @underlying380
theorem zbg:type_of% @Vx:= @Vx
end fFormP2
open fFormP2 in
theorem vm(w:World):Calls prog 246 #[] w fun e w'=>∃gs gt,e=.returned (Wc gs gt)/\Ql w' gs gt/\Below w.heap.size w w':=wD
def sectP(xs:List Int):Bk:=sectB 3 (numL Vw xs)
theorem xT{xs:List Int}(h:xs.length=20):(sectP xs).length=64:=vj (by rw[wk (by rw[h];rfl)];decide)
def YK(w:World)(xs:List Int)(e:Ending)(w':World):Prop:=
 ((mayP xs=true/\e=.returned (.tuple #[.agg (bkC (sectP xs)).toArray,.int .i64 0]))\/(mayP xs=false/\e=.returned (.tuple #[.agg (bkC zB).toArray,.int .i64 10])))/\Below w.heap.size w w'
namespace fFormP2
abbrev n14f:Nat:=280
theorem Ae:type_of% @wn:= @wn
abbrev d16f:= @mayP
theorem zbh:type_of% @qI:= @qI
theorem zbi:type_of% @Vt:= @Vt
theorem zbj:type_of% @uN:= @uN
theorem zbk:type_of% @YG:= @YG
end fFormP2
open fFormP2 in
theorem YL{w:World}{gs gt:Nat}(hF:Ql w gs gt)(hN:Nib w)(cs:List Value)(hcs:cs.length=20)(xs:List Int)(hxl:xs.length=20)
  (htell:∀W,Calls prog 307 #[.agg cs.toArray] W (zQ W 20 xs)):
  Calls prog 316 #[Wc gs gt,.agg cs.toArray] w (YK w xs):=ui
namespace fFormP2
theorem zbl:type_of% @func268:= @func268
theorem zbm:type_of% @ntmps268:= @ntmps268
theorem zbn:type_of% @underlying280:= @underlying280
theorem zbo:type_of% @vm:= @vm
theorem zbp:type_of% @YL:= @YL
abbrev zbq:= @sectP
theorem zbr:type_of% @xT:= @xT
end fFormP2
open fFormP2 in
theorem YM{w:World}(hN:Nib w)(cs:List Value)(hcs:cs.length=20)(xs:List Int)(hxl:xs.length=20)
  (htell:∀W,Calls prog 307 #[.agg cs.toArray] W (zQ W 20 xs)):
  Calls prog 268 #[.agg cs.toArray] w (YK w xs):=uj
def needN(n:Nat):Nat:=(n-1)/4+1
def partE(E:List Ent)(k:Nat):List Ent:=(E.drop (4*k)).take 4
def padE(l:List Ent):List Ent:=l++List.replicate (4-l.length) Ent.none
def pageXs(seq need:Nat)(E:List Ent)(k:Nat):List Int:=natsI (pgN seq k need (partE E k).length (padE (partE E k)))
def zY(seq:Nat)(E:List Ent)(k:Nat):List Bk:=(List.range k).map fun i=>sectP (pageXs seq (needN E.length) E i)
def pagesB(seq:Nat)(E:List Ent):List Bk:=zY seq E (needN E.length)
def qJ(x:Ent):Prop:=x.b<=4095/\x.s<=1023/\x.m<=4294967295
theorem tW(E:List Ent)(k:Nat):(partE E k).length<=4:=by simp[partE];omega
theorem tX{l:List Ent}(h:l.length<=4):(padE l).length=4:=by simp[padE];omega
theorem Uy(L:List Ent):(L.flatMap entN).length=L.length*4:=by
 induction L with
 |nil=>rfl
 |cons x L ih=>rw[qyg,qzd,ih,qze,show(entN x).length=4 from rfl];omega
theorem yP(seq need:Nat)(E:List Ent)(k:Nat):(pageXs seq need E k).length=20:=by
 have h:=tX (tW E k);have:((padE (partE E k)).flatMap entN).length=16:=by rw[Uy,h]
 simp[pageXs,natsI,pgN,this]
theorem sJ(seq no of many:Nat)(L:List Ent){i:Nat}(hi:i<L.length):rowI (natsI (pgN seq no of many L)) i=natsI (entN (L.getD i Ent.none)):=by
 have h:∀(L:List Ent) (i:Nat),i<L.length->((natsI (L.flatMap entN)).drop (4*i)).take 4=natsI (entN (L.getD i Ent.none)):=by
  intro L
  induction L with
  |nil=>intro i h;simp at h
  |cons x L ih=>
   intro i hi;cases i with
   |zero=>rfl
   |succ i=>
    have e:natsI ((x::L).flatMap entN)=natsI (entN x)++natsI (L.flatMap entN):=by simp[natsI]
    rw[e,show 4*(i+1)=(natsI (entN x)).length+4*i by simp[natsI,entN];omega,List.drop_length_add_append];simpa using ih i (by simpa using hi)
 rw[<-h L i hi];simp only[rowI];rw[<-List.drop_drop];rfl
theorem uP{seq:Nat}{E:List Ent}(hs:seq<=1099511627776)(hE:∀x∈E,qJ x)(hn:needN E.length<=256){k:Nat}(hk:k<needN E.length):mayP (pageXs seq (needN E.length) E k)=true:=by
 have hp:=tW E k;have hl:=tX hp;simp only[mayP,qxo,qYz];refine⟨⟨?_,?_⟩,?_⟩
 .simp [withinB,bndP,pageXs,natsI,pgN,inB];omega
 .simp [pageXs,natsI,pgN];omega
 .unfold entsB;rw[qxw];intro i hi;have hi4:i<4:=by simpa using hi
  unfold entB;have h3:(pageXs seq (needN E.length) E k).getD 3 0=((partE E k).length:Int):=by simp[pageXs,natsI,pgN]
  rw[h3];unfold pageXs;rw[sJ _ _ _ _ _ (by omega)];split
  .rename_i hlt
   have hlt':i<(partE E k).length:=by omega
   have e:(padE (partE E k)).getD i Ent.none=(partE E k)[i]:=by
    simp[padE,List.getD_eq_getElem?_getD,List.getElem?_append_left hlt',hlt']
   rw[e];have hm:(partE E k)[i]∈E:=List.mem_of_mem_drop (List.mem_of_mem_take (qyz hlt'));obtain⟨a1,a2,a3⟩:=hE _ hm;generalize (partE E k)[i]=x at*;simp[withinB,bndE,natsI,entN,inB];have:bitN x.d<=1:=by unfold bitN;split<;>omega
   omega
  .rename_i hge
   have e:(padE (partE E k)).getD i Ent.none=Ent.none:=by
    simp only[padE,qyh];rw[qyj (by omega),qys];split<;>rfl
   rw[e];simp[natsI,entN,Ent.none,bitN]
theorem uk(seq:Nat)(E:List Ent)(k:Nat):zY seq E (k+1)=zY seq E k++[sectP (pageXs seq (needN E.length) E k)]:=by simp[zY,List.range_succ]
theorem xf(seq:Nat)(E:List Ent)(k:Nat):(zY seq E k).length=k:=by simp[zY]
theorem We(seq:Nat)(E:List Ent)(k:Nat):All64 (zY seq E k):=by
 intro x hx;simp only[zY,qzv]at hx;obtain⟨i,-,rfl⟩:=hx;exact xT (yP _ _ _ _)
theorem zbs(x y:Nat)(hx:x<18446744073709551616)(hy:y<18446744073709551616)(w:World):
  Calls prog 318 #[.int .u64 x,.int .u64 y] w fun e w'=>e=.returned (.tuple #[.int .u64 ((x*y/18446744073709551616:Nat):Int),.int .u64 ((x*y%18446744073709551616:Nat):Int)])/\w'=w:=by
 obtain⟨bd,bt,bw,hhi⟩:=Lib.mul64_hi x y hx hy;have ba:=Lib.half_mul_le (a:=x/4294967296) (b:=y/4294967296) (by omega) (by omega);have bb:=Lib.half_mul_le (a:=x/4294967296) (b:=y%4294967296) (by omega) (by omega);have bc:=Lib.half_mul_le (a:=x%4294967296) (b:=y/4294967296) (by omega) (by omega);have ba':x/4294967296*(y/4294967296)<18446744073709551616:=by omega
 have bb':x/4294967296*(y%4294967296)<18446744073709551616:=by omega
 have bc':x%4294967296*(y/4294967296)<18446744073709551616:=by omega
 have bh1:x/4294967296*(y/4294967296)+(x/4294967296*(y%4294967296)+x%4294967296*(y%4294967296)/4294967296)/4294967296<18446744073709551616:=by omega
 have bh:x/4294967296*(y/4294967296)+(x/4294967296*(y%4294967296)+x%4294967296*(y%4294967296)/4294967296)/4294967296+((x/4294967296*(y%4294967296)+x%4294967296*(y%4294967296)/4294967296)%4294967296+x%4294967296*(y/4294967296))/4294967296<18446744073709551616:=by omega
 go_enter func318,ntmps318
 go_wp2
 simp only[Mul64.maskN x hx,Mul64.maskN y hy,Mul64.divN,Mul64.mulN,Mul64.addN,Mul64.wrapN _ bd,Mul64.wrapN _ bb',Mul64.wrapN _ bt,Mul64.maskN _ bt,Mul64.wrapN _ bc',Mul64.wrapN _ bw,Mul64.wrapN _ ba',Mul64.wrapN _ bh1,Mul64.wrapN _ bh,Mul64.wrapM (x*y)];rw[hhi];go_ret2
 exact⟨rfl,rfl⟩
theorem mul(x y:Nat)(hx:x<18446744073709551616)(hy:y<18446744073709551616)(w:World):
  Calls prog 270 #[.int .u64 x,.int .u64 y] w fun e w'=>e=.returned (.tuple #[.int .u64 ((x*y/18446744073709551616:Nat):Int),.int .u64 ((x*y%18446744073709551616:Nat):Int)])/\w'=w:=by
 go_enter func270,ntmps270
 go_wp2_with fail
 refine(zbs x y hx hy w).mono ?_;rintro e w' ⟨rfl,rfl⟩;go_wp2
 go_ret2
 exact⟨rfl,rfl⟩
section
variable{P:Program}
theorem se(w:World)(dT sT ty elem:TypeId)(k g o dLen dCap:Nat)(a:Addr)(sLen sCap:Nat)(cur:Array Value)(t:TypeId)(cs:List Value)
  (hu:P.underlying dT=some (.slice elem)) (hs:(P.info? elem).map (·.size)=some k)
  (hg:w.heap[g]?=some (.cells cur t (0,0))) (hn:cs.length=Nat.min sLen dLen*k)
  (hsrc:∀j v,cs[j]?=some v->w.cell? (a.add j)=some v) (hfit:o+cs.length<=cur.size) (h1:∀v∈cs,v.oneCell'=true):
  (Builtin.copy_ #[dT,sT] ty #[.slice (some ⟨g,o,none⟩) dLen dCap,.slice (some a) sLen sCap]).run P w=
   .ok (goInt (Nat.min sLen dLen:Nat)) (w.setRow g (cur.toList.take o++cs++cur.toList.drop (o+cs.length)).toArray):=by
 have hl:=run_loadCells_list (P:=P) w a cs hsrc;have hst:=run_storeCells_at P g o t cs 0 cur w hg (by simpa using hfit) h1;cases hq:P.info? elem with
 |none=>simp[hq]at hs
 |some i=>
  have hi:i.size=k:=by simpa[hq]using hs
  rw[hn]at hl;simp[Builtin.copy_,run_underlying hu,Builtin.lenOf,Builtin.firstCells,sizeOf,typeInfo,hq,hi,hl,hst]
theorem uQ(w:World)(dT sT elem:TypeId)(k g o dLen dCap:Nat)(a:Addr)(sLen sCap:Nat)(cur:Array Value)(t:TypeId)(cs:List Value)
  (hu:P.underlying dT=some (.slice elem)) (hs:(P.info? elem).map (·.size)=some k)
  (hg:w.heap[g]?=some (.cells cur t (0,0))) (hn:cs.length=Nat.min sLen dLen*k)
  (hsrc:∀j v,cs[j]?=some v->w.cell? (a.add j)=some v) (hfit:o+cs.length<=cur.size) (h1:∀v∈cs,v.oneCell'=true):
  ∃w',(∀ty,(Builtin.copy_ #[dT,sT] ty #[.slice (some ⟨g,o,none⟩) dLen dCap,.slice (some a) sLen sCap]).run P w=.ok (goInt (Nat.min sLen dLen:Nat)) w')/\
   w'.heap[g]?=some (.cells (cur.toList.take o++(cs++cur.toList.drop (o+cs.length))).toArray t (0,0))/\Upd (fun j=>j=g) w w'/\w'.heap.size=w.heap.size:=
 ⟨_,fun ty=>se w dT sT ty elem k g o dLen dCap a sLen sCap cur t cs hu hs hg hn hsrc hfit h1,by rw[<-qxx];exact setRow_heap w g cur _ t _ hg,⟨rfl,rfl,rfl,by simp[World.setRow],fun k _ hk=>setRow_other w g k _ (fun e=>hk e)⟩,by simp[World.setRow]⟩
end
def noPl(n:Nat):List Value:=(List.replicate n ()).flatMap fun _=>[.int .i64 (-1),.bool false]
theorem yJ(n:Nat):(noPl n).length=n*2:=by
 have:=yG (f:=fun _:Unit=>[Value.int .i64 (-1),Value.bool false]) (k:=2) (fun _=>rfl) (List.replicate n ());rw[qzi]at this;exact this
theorem qK(a b:Nat):noPl (a+b)=noPl a++noPl b:=by
 simp only[noPl];rw[<-List.replicate_append_replicate,qyf]
theorem Uz:(prog.info? 95).map (fun i=>(i.zero,i.size,i.bytes))=some (some (.agg #[.int .i64 0,.bool false]),2,16):=by kernel_rfl
theorem UA(n:Nat)(gx:Nat)(w:World)(h1:1<=n)(h2:n<=4096)(hx:w.heap[gx]?=some (.cells #[.int .i64 (-1),.bool false] 95)):
  Calls prog 201 #[.slice (some ⟨gx,0,none⟩) 1 1,.int .i64 n] w fun e w'=>e=.returned (.slice (some ⟨w.heap.size,0,none⟩) n n)/\
   w'.heap[w.heap.size]?=some (.cells (noPl n).toArray 95)/\Below w.heap.size w w'/\w'.heap.size=w.heap.size+1:=by
 obtain⟨i0,hi,hz0,hz1,hz2⟩:=qZa Uz;have hmk:∀w:World,∃zs:List Value,zs.length=n*2/\(Instr.makeSlice 283 (.int .i64 n) (.int .i64 n)).run prog w=.ok (.slice (some ⟨w.heap.size,0,none⟩) n n) (w.alloc (.cells zs.toArray 95)):=by
  intro w;have:=run_make (P:=prog) w 283 95 i0 (.agg #[.int .i64 0,.bool false]) underlying283 hi hz0 .i64 .i64 n n (by omega) (by omega) (by rw[hz2];omega) (by omega);refine⟨(madeCells #[.int .i64 0,.bool false] (n*2)).toList,by simp[size_madeCells],?_⟩;rw[this];simp[hz1,Value.cells]
 obtain⟨zs,hzl,hrun⟩:=hmk w;have hn0:¬(n:Int)<0:=by omega
 clear hi hz0 hz1 hz2 hmk;go_enter func201,ntmps201
 go_wp2_with fail
 refine(mul 1 n (by decide) (by omega) _).mono ?_;rintro e w' ⟨rfl,rfl⟩;rw[show 1*n/18446744073709551616=0 by omega,show 1*n%18446744073709551616=n by omega];have hgx:=zf hx;have hA:(w'.alloc (.cells zs.toArray 95)).heap[w'.heap.size]?=some (.cells zs.toArray 95):=zc _ _ rfl;have hxA:(w'.alloc (.cells zs.toArray 95)).heap[gx]?=some (.cells #[.int .i64 (-1),.bool false] 95):=(qxk _ _ _ hgx).trans hx;have hS:(prog.info? 95).map (·.size)=some 2:=by kernel_rfl
 have HA:=qqh hA;have HX:=qqh hxA;have HRUN:=qqh hrun;clear hA hxA hx;have hmn:Nat.min 1 n=1:=Nat.min_eq_left h1;have e1:([.int .i64 (-1),.bool false]:List Value).length=Nat.min 1 n*2:=by rw[hmn];rfl
 have e2:∀(j:Nat) (v:Value),([.int .i64 (-1),.bool false]:List Value)[j]?=some v->(w'.alloc (.cells zs.toArray 95)).cell? ((⟨gx,0,none⟩:Addr).add j)=some v:=fun j v hj=>by rw[qxa,za HX.o];simpa using hj
 have e3:0+([.int .i64 (-1),.bool false]:List Value).length<=zs.toArray.size:=by simp;omega
 obtain⟨w2,hcp,hg2,hu2,hz2⟩:=uQ (P:=prog) (w'.alloc (.cells zs.toArray 95)) 283 283 95 2 w'.heap.size 0 n n ⟨gx,0,none⟩ 1 1 zs.toArray 95 [.int .i64 (-1),.bool false] underlying283 hS HA.o e1 e2 e3 (by simp[Value.oneCell']);rw[hmn]at hcp;clear e1 e2 e3;have hg3:w2.heap[w'.heap.size]?=some (.cells (noPl 1++zs.drop 2).toArray 95):=by rw[hg2];rfl
 have hB2:Below w'.heap.size w' w2:=zl ((qxl _ _).alloc (qXv _) _) hu2 (qXv _) (fun j e=>by omega);have hz3:w2.heap.size=w'.heap.size+1:=by rw[hz2];simp
 clear hg2 hu2 hz2;go_wp2
 clear hcp HX HRUN hrun;go_loopg[8] (n-1) (fun q i wr=>∃(k:Nat) (rest:List Value),1<=k/\k<=n/\q=n-k/\i=.int .i64 k/\rest.length=(n-k)*2/\wr.heap[w'.heap.size]?=some (.cells (noPl k++rest).toArray 95)/\Below w'.heap.size w' wr/\wr.heap.size=w'.heap.size+1)
 case atStart=>exact⟨1,zs.drop 2,by omega,h1,rfl,rfl,by simp;omega,hg3,hB2,hz3⟩
 case round=>
  clear hg3 hB2 hz3;obtain⟨k,rest,hk1,hkn,rfl,rfl,hrl,hg,hb,hz⟩:=hrel;by_cases hlt:k<n
  .have hkk:noPl k=noPl (Nat.min k (n-k))++noPl (k-Nat.min k (n-k)):=by rw[<-qK];congr 1;have:=Nat.min_le_left k (n-k);show k=min k (n-k)+_;have:min k (n-k)<=k:=Nat.min_le_left _ _;show k=min k (n-k)+(k-min k (n-k));omega
   obtain⟨w3,hcp,hg4,hu4,hz4⟩:=uQ (P:=prog) wr.drew 283 283 95 2 w'.heap.size (k*2) (n-k) (n-k) ⟨w'.heap.size,0,none⟩ k n (noPl k++rest).toArray 95 (noPl (Nat.min k (n-k))) underlying283 hS hg (by rw[yJ])
    (fun j v hj=>by
     rw[qxa,za (w:=wr.drew) hg];have hjl:=(qyp.1 hj).1;rw[hkk];simp only[qyv,qYe,qxx];rw[qyi hjl];exact hj)
    (by rw[yJ];simp only[qXm,qzd,yJ,hrl];have:Nat.min k (n-k)<=n-k:=Nat.min_le_right _ _;omega) (by intro v hv;simp only[noPl,qzu]at hv;obtain⟨_,_,hv⟩:=hv;simp at hv;rcases hv with rfl|rfl<;>simp[Value.oneCell'])
   go_wp2
   go_region
   obtain⟨c,hce⟩:=qqe (Nat.min k (n-k));rw[<-hce]at hkk hg4;have hc1:1<=c:=by rw[hce];exact Nat.le_min.2 ⟨hk1,by omega⟩
   have hc2:c<=n-k:=by rw[hce];exact Nat.min_le_right _ _
   have hg5:w3.heap[w'.heap.size]?=some (.cells (noPl (k+c)++rest.drop (c*2)).toArray 95):=by
    rw[hg4,qK];have e1:(noPl k++rest).toArray.toList.take (k*2)=noPl k:=by simp[yJ]
    have e2:(noPl k++rest).toArray.toList.drop (k*2+(noPl c).length)=rest.drop (c*2):=by
     rw[yJ];show(noPl k++rest).drop (k*2+c*2)=_;rw[List.drop_append,yJ,List.drop_eq_nil_of_le (by rw[yJ];omega)];simp
    rw[e1,e2,qxx]
   have hb3:Below w'.heap.size w' w3:=zl hb (((uur _ wr).drew).trans hu4) (qXv _) (fun j e=>by omega);have hz5:w3.heap.size=w'.heap.size+1:=by rw[hz4];exact hz
   rw[<-hce];clear hg4 hu4 hz4 hg hb hz hcp hkk hce;have hkc:k+c<=4096:=by omega
   have hkc':∀x:Int,x=(k:Int)+c->wrap64 x=((k+c:Nat):Int):=by intro x hx;subst hx;unfold wrap64;omega
   go_wp2
   go_roundg (n-(k+c))
   case measure=>omega
   case rel=>exact⟨k+c,rest.drop (c*2),by omega,by omega,rfl,by rw[hkc' _ rfl],by simp;omega,hg5,hb3,hz5⟩
  .obtain rfl:k=n:=by omega
   obtain rfl:rest=[]:=qyd (by omega);rw[qxy]at hg;go_wp2
   go_ret
   exact⟨rfl,hg,hb,hz⟩
theorem qL(n:Nat)(h2:n<=100000)(w:World):Calls prog 54 #[.int .i64 (n:Int)] w fun e w'=>e=.returned (.int .i64 (needN n:Int))/\w=w':=by
 by_cases h1:1<=n
 .exact need_any n h1 h2 w
 .obtain rfl:n=0:=by omega
  go_enter func54,ntmps54
  go_wp2
  go_ret
  exact⟨rfl,rfl⟩
theorem Qm:(prog.info? 54).map (fun i=>(i.zero.map (·.cells.size),i.size,i.bytes))=some (some 64,64,64):=by kernel_rfl
theorem xi:∃i z,prog.info? 54=some i/\i.zero=some z/\z.cells.size=64/\i.size=64/\i.bytes=64:=by
 obtain⟨i,hi,h⟩:=qYi.1 Qm;simp only[qYk]at h;obtain⟨h1,h2,h3⟩:=h;obtain⟨z,hz,hs⟩:=qYi.1 h1;exact⟨i,z,hi,hz,hs,h2,h3⟩
theorem Wf(v:Value)(hv:v.cells.size=64)(w:World):(Instr.buildSlice 41 1 #[(0,v)]).run prog w=.ok (.slice (some ⟨w.heap.size,0,none⟩) 1 1) (w.alloc (.cells v.cells 54)):=by
 obtain⟨i,z,hi,hz,hs,hsz,_⟩:=xi;refine run_buildSlice w _ _ 1 _ _ i z underlying41 hi hz (by rw[hsz];decide) (by rw[hsz];decide) ?_;obtain⟨a1,a2⟩:=yL 0 v.cells ((Array.range (1*i.size)).map (z.cells[·%z.cells.size]!));rw[show(#[(0,v)]:Array (Nat×Value)).toList=[(0,v)]from rfl];rw[xj _ _ 0 0 64 v _ (by simp[hsz]) hv (by simp[hsz])];show some _=_
 congr 1
 apply qxd
 intro k;rw[a2 k];by_cases hk:k<64
 .rw [if_pos ⟨by omega,by omega,by simp[hsz];omega⟩];rfl
 .rw [if_neg (by omega),qxf (by simp[hsz];omega),qxf (by omega)]
theorem Af(seq no of m:Nat)(L:List Ent)(hL:L.length=m)(hm:m<=4)(P0:List Value)(h0:P0=[.int .i64 (seq:Int),.int .i64 (no:Int),.int .i64 (of:Int),.int .i64 (m:Int)]++(List.replicate 4 Ent.none).flatMap entC):
  P0.take 4++(L.flatMap entC++P0.drop (4+(L.flatMap entC).length))=pgC seq no of m (padE L):=by
 subst h0;rw[xR,hL];have h1:([Value.int .i64 (seq:Int),.int .i64 (no:Int),.int .i64 (of:Int),.int .i64 (m:Int)]++(List.replicate 4 Ent.none).flatMap entC).drop (4+m*4)=(List.replicate (4-m) Ent.none).flatMap entC:=by
  have:m=0\/m=1\/m=2\/m=3\/m=4:=by omega
  rcases this with rfl|rfl|rfl|rfl|rfl<;>rfl
 rw[h1,pgC,padE,hL,qyf];rfl
def pg0(seq k nd m:Nat):Array Value:= #[.int .i64 (seq:Int),.int .i64 (k:Int),.int .i64 (nd:Int),.int .i64 (m:Int),.int .i64 0,.int .i64 0,.bool false,.int .i64 0,.int .i64 0,.int .i64 0,.bool false,.int .i64 0,.int .i64 0,.int .i64 0,.bool false,.int .i64 0,.int .i64 0,.int .i64 0,.bool false,.int .i64 0]
theorem SZ{w:World}{b:Nat}{T:TypeId}(seq k nd m:Nat)(L:List Ent)(hL:L.length=m)(hm:m<=4)(h:w.heap[b]?=some (.cells ((pg0 seq k nd m).toList.take 4++(L.flatMap entC++(pg0 seq k nd m).toList.drop (4+(L.flatMap entC).length))).toArray T (0,0))):
  w.heap[b]?=some (.cells (pgC seq k nd m (padE L)).toArray T (0,0)):=by
 rw[h,Af seq k nd m L hL hm (pg0 seq k nd m).toList rfl]
theorem qM(seq k nd m:Nat):(pg0 seq k nd m).size=20:=rfl
theorem Vy(seq no of m:Nat){L:List Ent}(h:L.length=4):(pgC seq no of m L).length=20:=by
 rw[pgC,qzd,xR,h];rfl
theorem Wg{w:World}{g o:Nat}{E:List Ent}(hr:w.rangeAt g o (E.flatMap entC))(k:Nat):w.rangeAt g (o+k*4*4) ((partE E k).flatMap entC):=by
 have hd:∀(E:List Ent) (n:Nat),(E.drop n).flatMap entC=(E.flatMap entC).drop (n*4):=by
  intro E
  induction E with
  |nil=>intro n;simp
  |cons x E ih=>
   intro n;cases n with
   |zero=>simp
   |succ n=>rw[List.drop_succ_cons,ih,qyg,show(n+1)*4=(entC x).length+n*4 by rw[qF];omega,List.drop_length_add_append]
 have ht:∀(E:List Ent) (n:Nat),(E.take n).flatMap entC=(E.flatMap entC).take (n*4):=by
  intro E
  induction E with
  |nil=>intro n;simp
  |cons x E ih=>
   intro n;cases n with
   |zero=>simp
   |succ n=>rw[List.take_succ_cons,qyg,ih,qyg,show(n+1)*4=(entC x).length+n*4 by rw[qF];omega,List.take_length_add_append]
 intro j v hv;rw[partE,ht,hd,qyu]at hv;split at hv
 .rw [qym]at hv;have:=hr _ v hv;rw[show o+k*4*4+j=o+(4*k*4+j) by omega];exact this
 .cases hv
def xl(w:World)(seq:Nat)(E:List Ent)(e:Ending)(w':World):Prop:=∃v,e=.returned (.tuple #[v,.int .i64 0])/\Sl w' 54 64 v (needN E.length) (rowC (pagesB seq E))/\From w.heap.size v/\Below w.heap.size w w'
theorem UB(w:World):Calls prog 54 #[.int .i64 0] w fun e w'=>e=.returned (.int .i64 1)/\w=w':=qL 0 (by omega) w
theorem sg{P:Program}(w:World)(dT sT ty elem:TypeId)(k g o:Nat)(dl dc:Nat)(hu:P.underlying dT=some (.slice elem))(hs:(P.info? elem).map (·.size)=some k):
  (Builtin.copy_ #[dT,sT] ty #[.slice (some ⟨g,o,none⟩) dl dc,.slice none 0 0]).run P w=.ok (.int .i64 0) w:=by
 cases hq:P.info? elem with
 |none=>simp[hq]at hs
 |some i=>simp[Builtin.copy_,run_underlying hu,Builtin.lenOf,Builtin.firstCells,sizeOf,typeInfo,hq,storeCells,goInt]
theorem Ag(seq:Nat):(pg0 seq 0 1 0)=(pgC seq 0 1 0 (padE (partE [] 0))).toArray:=rfl
theorem wF{ops:Array Oper}{rest:List Oper}{op:Oper}{a:Act}{w:World}{Q:Exit->Act->World->Prop}(hgd:op.guard=none)(p q r s:Operand)(ho:op.op=.build 280 #[(0,p),(1,q),(2,r),(3,s)])
  (x k nd m:Nat) (hp:a.eval p=.int .i64 (x:Int)) (hq:a.eval q=.int .i64 (k:Int)) (hr:a.eval r=.int .i64 (nd:Int)) (hs:a.eval s=.int .i64 (m:Int)) (PG:Array Value) (hPG:PG=pg0 x k nd m)
  (h:wpList prog ops Q rest (a.put op.dst (.agg PG)) w):wpList prog ops Q (op::rest) a w:=by
 have hrun:(Instr.build 280 #[(0,.int .i64 (x:Int)),(1,.int .i64 (k:Int)),(2,.int .i64 (nd:Int)),(3,.int .i64 (m:Int))]).run prog w=.ok (.agg PG) w:=by
  rw[hPG];kernel_rfl
 refine qZh hgd fun K' hK'=>?_;unfold Oper.wp;simp only[execOp,ho,qzp,qzm,qzo,hp,hq,hr,hs,qYm,hrun,qYl];exact hK' _ _ h
theorem uR(F:List Bk)(x:Bk):rowC (F++[x])=rowC F++bkC x:=by simp[rowC]
theorem Wh{w:World}{g o n c:Nat}(E:List Ent)(hE:E.length=n)(h1:1<=n)(h2:n<=1024)(hr:w.rangeAt g o (E.flatMap entC))(hc:n<=c)(hm:c<=maxLen)(seq:Nat)(hs:seq<=1099511627776)(hok:∀x∈E,qJ x)(hN:Nib w):
  Calls prog 191 #[.int .i64 (seq:Int),.slice (some ⟨g,o,none⟩) n c] w (xl w seq E):=by
 obtain⟨i0,hi,hb0⟩:=qYi.1 Qm;simp only[qYk]at hb0;obtain⟨hb1,hb2,hb3⟩:=hb0;obtain⟨z,hz,hzs⟩:=qYi.1 hb1;have hq:needN n<=256:=by unfold needN;omega
 obtain⟨Z,hZ,hmk⟩:∃Z:Array Value,Z.size=needN n*64/\∀w:World,(Instr.makeSlice 41 (.int .i64 0) (.int .i64 (needN n:Int))).run prog w=.ok (.slice (some ⟨w.heap.size,0,none⟩) 0 (needN n)) (w.alloc (.cells Z 54)):=by
  refine⟨madeCells z.cells (needN n*64),by simp[size_madeCells],fun w=>?_⟩;have:=run_make (P:=prog) w 41 54 i0 z underlying41 hi hz .i64 .i64 0 (needN n) (by omega) (by omega) (by rw[hb3];omega) (by omega);rw[this];simp only[qxu,hb2];rfl
 have HK:=Y5 hi hz hzs hb2 hb3;have H:=Y6 hr hs hok hN hE hZ;have hgl:g<w.heap.size:=by
  have:=hr 0 (.int .i64 ((E[0]'(by omega)).b:Int)) (by
   have h0:0<E.length:=by omega
   obtain⟨x,l,rfl⟩:∃x l,E=x::l:=by cases E with|nil=>simp at h0|cons x l=>exact⟨x,l,rfl⟩
   rfl)
  exact(zK this).2
 have hq1:1<=needN n:=by unfold needN;omega
 have hqn:∀k,k<needN n->4*k<n:=fun k hk=>by unfold needN at hk;omega
 have hqm:needN n<=n:=by unfold needN;omega
 have HQ:=Y2 hqn hqm;unfold maxLen at hm;clear hr hs hok hN hE hi hz hzs hb1 hb2 hb3 hZ hqn;generalize hnd:needN n=nd at*;have HND:=qqh hnd;go_enter func191,ntmps191
 go_wp2_with (first
  |(go_at_call 54;refine(qL n (by omega) _).mono ?_;rintro e w' ⟨rfl,rfl⟩;rw[hnd];clear hnd)
  |fail)
 have hg0:=zc w (.cells Z 54) rfl;have hb0:Below w.heap.size w (w.alloc (.cells Z 54)):=(qxl _ w).alloc (qXv _) _;have hsl0:Sl (w.alloc (.cells Z 54)) 54 64 (.slice (some ⟨w.heap.size,0,none⟩) 0 nd) 0 (rowC (zY seq E 0)):=
  ⟨by simp[zY,rowC],.inr ⟨w.heap.size,0,nd,_,rfl,hg0,qYf _,by unfold maxLen;omega,by rw[H.o.2.2.2.2.2];omega,by simp[zY,rowC]⟩⟩
 have hf0:From w.heap.size (.slice (some ⟨w.heap.size,0,none⟩) 0 nd):=fun g hg=>by simp[Value.ownBlock]at hg;omega
 generalize w.alloc (.cells Z 54)=w1 at*;have H1:=Y3 hsl0 hf0 hb0;clear hg0 hb0 hsl0 hf0 hmk;go_loopw[7,21] (fun s7 s21 wr=>∃k:Nat,k<=nd/\s21=.int .i64 k/\Sl wr 54 64 s7 k (rowC (zY seq E k))/\From w.heap.size s7/\Below w.heap.size w wr) (fun _ s21 _=>nd-(intOf s21).toNat)
 case atStart=>exact⟨0,by omega,rfl,H1.o.1,H1.o.2.1,H1.o.2.2⟩
 case round=>
  obtain⟨k,hk,rfl,hsl,hf,hb⟩:=hrel;by_cases hlt:k<nd
  .have h4:=HQ.o.1 k hlt;have b1:(0:Int)<=(k:Int):=by omega
   have HS:=Y3 hsl hf hb;obtain⟨ao,cc,rfl⟩:=hsl.rd.jd;obtain⟨m,hm1⟩:=qqe ((partE E k).length);have hmE:m=min 4 (n-4*k):=by rw[hm1,partE,qzk,qzf,H.o.2.2.2.2.1]
   have hm4:m<=4:=by omega
   have hmin:Nat.min m 4=m:=Nat.min_eq_left hm4;obtain⟨PG,hPG⟩:∃PG:List Value,PG.toArray=pg0 seq k nd m:=⟨(pg0 seq k nd m).toList,rfl⟩
   have hPGl:PG.length=20:=(congrArg Array.size hPG).trans (qM seq k nd m);have hPG1:∀v∈PG,v.oneCell'=true:=by
    intro v hv;have hv':v∈pg0 seq k nd m:=by rw[<-hPG];simpa using hv
    simp only[pg0,Array.mem_def,qzr,qXd,qZb]at hv';rcases hv' with rfl|rfl|rfl|rfl|rfl|rfl|rfl|rfl|rfl|rfl|rfl|rfl|rfl|rfl|rfl|rfl|rfl|rfl|rfl|rfl<;>rfl
   obtain⟨w0,hw0⟩:=qqe (wr.alloc (.cells PG.toArray 280));have hg0:w0.heap[wr.heap.size]?=some (.cells (pg0 seq k nd m) 280):=by rw[hw0,<-hPG];exact zc wr _ rfl
   have hu0:=qqu hw0;have hb0:Below w.heap.size w w0:=hb.trans ((Upd.below hu0).mono hb.size);have hr0:=Wg (Below.range hb0 H.o.1) k;obtain⟨w3,hcp,hg3,hu3,hz3⟩:=uQ (P:=prog) w0 22 22 37 4 wr.heap.size 4 4 4 ⟨g,o+k*4*4,none⟩ m m _ _ ((partE E k).flatMap entC) underlying22 Zp hg0 (by rw[xR,<-hm1,hmin])
    (fun j v hj=>by rw[qxa];exact hr0 j v hj) (by rw[xR,<-hm1,qM];omega) (fun v hv=>by obtain⟨x,-,hx⟩:=qzu.1 hv;exact YE x v hx)
   replace hg3:=SZ seq k nd m (partE E k) hm1.symm hm4 hg3;rw[hmin]at hcp;rw[hw0]at hcp;have hp4:=tX (tW E k);have hr3:=zh hg3;have hszP:(prog.info? 280).map (·.size)=some (pgC seq k nd m (padE (partE E k))).length:=by rw[Vy _ _ _ _ hp4];exact wK
   have hb3:Below w.heap.size w w3:=zl hb0 hu3 (qXv _) (fun j e=>by have:=hb.size;omega);have hput:=YM (H.o.2.2.2.1.below hb3) (pgC seq k nd m (padE (partE E k))) (Vy _ _ _ _ hp4) (pageXs seq nd E k) (yP _ _ _ _) (fun W=>by rw[pageXs,<-hm1];exact EC seq k nd m _ hp4);have hmay:Hid (mayP (pageXs seq nd E k)=true):=by
    show _=_;have:=uP (seq:=seq) (E:=E) (k:=k) H.o.2.1 H.o.2.2.1 (by rw[H.o.2.2.2.2.1,HND.o];exact hq) (by rw[H.o.2.2.2.2.1,HND.o];exact hlt);rw[H.o.2.2.2.2.1,HND.o]at this;exact this
   have hsl3:=hsl.keep ((hu0.mono (fun _ _ h=>h.elim)).new hu3 (S':=fun j=>j=wr.heap.size) (fun i hi e=>e)) (fun j hj e=>by have:=hsl.lt hj;omega);have HPG:=Y3 hPG hPGl hPG1;have hsi0:Hid ((prog.info? 280).map (·.size)=some PG.length):=by show _=_;rw[hPGl];exact wK
   have H3:=Y5 hput hsl3 hb3 hg3 hmE;clear hsl hf hb hput hsl3 hb3 hg3 hu3 hz3 hu0 hb0 hr0 hg0 hm1 hw0 hmE hPG hPGl hPG1;have hbr:((k:Int)*4+4<=(n:Int)/\k*4+4-k*4=m/\((k:Int)*4+4).toNat=k*4+4/\(k:Int)*4<=(k:Int)*4+4/\(k:Int)*4+4<=(c:Int))\/(¬(k:Int)*4+4<=(n:Int)/\n-k*4=m/\(k:Int)*4<=(n:Int)/\(n:Int)<=(c:Int)/\(n:Int)<(k:Int)*4+4):=by
    have:=H3.o.2.2.2.2;by_cases hc4:(k:Int)*4+4<=(n:Int)
    .exact .inl ⟨hc4,by omega,by omega,by omega,by omega⟩
    .exact .inr ⟨hc4,by omega,by omega,by omega,by omega⟩
   obtain⟨y,hy⟩:=qqe (sectP (pageXs seq nd E k));have hyl:(bkC y).length=64:=by rw[zn,hy];exact xT (yP _ _ _ _)
   have hy64:Hid ((prog.info? 54).map (·.size)=some (bkC y).length):=by show _=_;rw[hyl];exact zM
   have HY:=Y3 hy hyl (zv y);clear hy hyl;rcases hbr with⟨q1,q2,q3,q4,q5⟩|⟨q1,q2,q3,q4,q5⟩
   all_goals
    go_wp2_with (first
     |(refine wF rfl _ _ _ _ rfl seq k nd m (by rfl) (by rfl) (by rfl) (by rfl) PG.toArray HPG.o.1 ?_)
     |(refine zk rfl _ _ _ rfl _ _ _ rfl rfl (by rw[HPG.o.2.1];rfl) hsi0.out HPG.o.2.2 ?_)
     |(refine qZg rfl _ _ rfl _ _ rfl _ _ hr3 underlying280 rfl hszP ?_)
     |fail)
    refine H3.o.1.mono ?_;rintro e w4 ⟨hr4,hb4⟩;obtain rfl:e=.returned (.tuple #[.agg (bkC y).toArray,.int .i64 0]):=by
     rcases hr4 with⟨-,h⟩|⟨h,-⟩
     .rw [h,HY.o.1]
     .rw [hmay.out]at h;cases h
    have hA:=zc w4 (.cells (bkC y).toArray 54) rfl;have rA:=zh hA;have hu4:=qqb hb4;have hua:Upd (fun _=>False) w4 (w4.alloc (.cells (bkC y).toArray 54)):=(uur _ _).alloc _;have hsl5:=qqh ((H3.o.2.1.keep hu4 (fun _ _ h=>h)).keep hua (fun _ _ h=>h));have H4:=Y2 hu4 hua;clear hr4 hb4 hu4 hua hA q1 q2 q3 q4 q5 hcp hr3;go_wp2_with (first
     |(refine zk rfl _ _ _ rfl _ _ _ rfl rfl (by rw[HY.o.2.1];rfl) hy64.out HY.o.2.2 ?_)
     |(refine qZg rfl _ _ rfl _ _ rfl _ _ rA underlying54 rfl hy64.out ?_)
     |(refine xu rfl 41 54 _ rfl 64 (by decide) underlying41 ⟨i0,z,HK.o.1,HK.o.2.1,HK.o.2.2.1,HK.o.2.2.2.1⟩ (by decide) (bkC y) rfl HY.o.2.1 ?_)
     |(at_builtin;refine zS rfl _ _ _ rfl i0 z 64 underlying41 HK.o.1 HK.o.2.1 HK.o.2.2.2.1 HK.o.2.2.2.2 HK.o.2.2.1 (by decide) rfl hsl5.out (bkC y) (by rfl) HY.o.2.1 HY.o.2.2 (by unfold maxLen;omega) (by omega) ?_;intro v' w11 hs11 hu11 hbf)
     |fail)
    replace hu11:Upd (ownS (.slice ao k cc)) (w4.alloc (.cells (bkC y).toArray 54)) w11:=hu11;replace hbf:blockFrom (w4.alloc (.cells (bkC y).toArray 54)) (.slice ao k cc) v':=hbf;have HZ:=Y3 hs11 hu11 hbf;clear hs11 hu11 hbf rA;go_roundw
    case rel=>
     obtain⟨hs11,hu11,hbf⟩:=HZ.o;have hB4:Below w.heap.size w (w4.alloc (.cells (bkC y).toArray 54)):=zl H3.o.2.2.1 (H4.o.1.trans H4.o.2) (qXv _) (fun _ h=>h.elim);refine⟨k+1,by omega,by go_num,?_,hbf.ge hB4.size HS.o.2.1,zl hB4 hu11 (qXv _) HS.o.2.1.own⟩;rw[uk,H.o.2.2.2.2.1,HND.o,uR];rw[HY.o.1]at hs11;exact hs11
    case measure=>simp[intOf];omega
  .obtain rfl:k=nd:=by omega
   have HS:=Y3 hsl hf hb;obtain⟨ao,cc,rfl⟩:=hsl.rd.jd;clear hsl hf hb;go_wp2
   go_ret2
   exact⟨_,rfl,by unfold pagesB;rw[H.o.2.2.2.2.1,HND.o];exact HS.o.1,HS.o.2.1,HS.o.2.2⟩
theorem sK{w:World}(seq:Nat)(hs:seq<=1099511627776)(hN:Nib w):
  Calls prog 191 #[.int .i64 (seq:Int),.slice none 0 0] w (xl w seq []):=by
 obtain⟨i0,z,hi,hz,hzs,hsz,hby⟩:=xi;obtain⟨Z,hZ,hmk⟩:∃Z:Array Value,Z.size=64/\∀w:World,(Instr.makeSlice 41 (.int .i64 0) (.int .i64 1)).run prog w=.ok (.slice (some ⟨w.heap.size,0,none⟩) 0 1) (w.alloc (.cells Z 54)):=by
  refine⟨madeCells z.cells (1*64),by simp[size_madeCells],fun w=>?_⟩;have:=run_make (P:=prog) w 41 54 i0 z underlying41 hi hz .i64 .i64 0 1 (by omega) (by omega) (by rw[hby];omega) (by omega);rw[this];simp only[hsz];rfl
 have HK:=Y5 hi hz hzs hsz hby;have H:=Y3 hs hN hZ;have hcp:=fun(w:World) (g:Nat) (ty:TypeId)=>sg (P:=prog) w 22 22 ty 37 4 g 4 4 4 underlying22 Zp;clear hi hz hzs hsz hby hs hN hZ;go_enter func191,ntmps191
 go_wp2_with (first
  |(go_at_call 54;refine(UB _).mono ?_;rintro e w' ⟨rfl,rfl⟩)
  |fail)
 have hg0:=zc w (.cells Z 54) rfl;have hb0:Below w.heap.size w (w.alloc (.cells Z 54)):=(qxl _ w).alloc (qXv _) _;have hsl0:Sl (w.alloc (.cells Z 54)) 54 64 (.slice (some ⟨w.heap.size,0,none⟩) 0 1) 0 (rowC (zY seq [] 0)):=
  ⟨by simp[zY,rowC],.inr ⟨w.heap.size,0,1,_,rfl,hg0,qYf _,by unfold maxLen;omega,by rw[H.o.2.2];omega,by simp[zY,rowC]⟩⟩
 have hf0:From w.heap.size (.slice (some ⟨w.heap.size,0,none⟩) 0 1):=fun g hg=>by simp[Value.ownBlock]at hg;omega
 generalize w.alloc (.cells Z 54)=w1 at*;have H1:=Y3 hsl0 hf0 hb0;clear hg0 hb0 hsl0 hf0 hmk;go_loopw[7,21] (fun s7 s21 wr=>∃k:Nat,k<=1/\s21=.int .i64 k/\Sl wr 54 64 s7 k (rowC (zY seq [] k))/\From w.heap.size s7/\Below w.heap.size w wr) (fun _ s21 _=>1-(intOf s21).toNat)
 case atStart=>exact⟨0,by omega,rfl,H1.o.1,H1.o.2.1,H1.o.2.2⟩
 case round=>
  obtain⟨k,hk,rfl,hsl,hf,hb⟩:=hrel;by_cases hlt:k<1
  .obtain rfl:k=0:=by omega
   have HS:=Y3 hsl hf hb;obtain⟨ao,cc,rfl⟩:=hsl.rd.jd;obtain⟨PG,hPG⟩:∃PG:List Value,PG.toArray=pg0 seq 0 1 0:=⟨(pg0 seq 0 1 0).toList,rfl⟩
   have hPGl:PG.length=20:=(congrArg Array.size hPG).trans (qM seq 0 1 0);have hPG1:∀v∈PG,v.oneCell'=true:=by
    intro v hv;have hv':v∈pg0 seq 0 1 0:=by rw[<-hPG];simpa using hv
    simp only[pg0,Array.mem_def,qzr,qXd,qZb]at hv';rcases hv' with rfl|rfl|rfl|rfl|rfl|rfl|rfl|rfl|rfl|rfl|rfl|rfl|rfl|rfl|rfl|rfl|rfl|rfl|rfl|rfl<;>rfl
   have hu0:Upd (fun _=>False) wr (wr.alloc (.cells PG.toArray 280)):=(uur _ wr).alloc _;have hr3:=zh (zc wr (.cells PG.toArray 280) rfl);have hb3:Below w.heap.size w (wr.alloc (.cells PG.toArray 280)):=hb.trans ((Upd.below hu0).mono hb.size);have hPGe:PG=pgC seq 0 1 0 (padE (partE [] 0)):=by have:=congrArg Array.toList (hPG.trans (Ag seq));simpa using this
   have hp4:(padE (partE [] 0)).length=4:=rfl;have hput:=YM (H.o.2.1.below hb3) PG hPGl (pageXs seq 1 [] 0) (yP _ _ _ _) (fun W=>by rw[hPGe];exact EC seq 0 1 0 _ hp4);have hmay:Hid (mayP (pageXs seq 1 [] 0)=true):=uP (seq:=seq) (E:=[]) (k:=0) H.o.1 (by simp) (by decide) (by decide);have hsl3:=hsl.keep hu0 (fun _ _ h=>h);have HPG:=Y3 hPG hPGl hPG1;have hsi0:Hid ((prog.info? 280).map (·.size)=some PG.length):=by show _=_;rw[hPGl];exact wK
   have H3:=Y3 hput hsl3 hb3;obtain⟨y,hy⟩:=qqe (sectP (pageXs seq 1 [] 0));have hyl:(bkC y).length=64:=by rw[zn,hy];exact xT (yP _ _ _ _)
   have hy64:Hid ((prog.info? 54).map (·.size)=some (bkC y).length):=by show _=_;rw[hyl];exact zM
   have HY:=Y3 hy hyl (zv y);clear hsl hf hb hput hsl3 hb3 hu0 hPG hPGl hPG1 hPGe hp4 hy hyl;simp only[Int.natCast_zero]at*;go_wp2_with (first
    |(refine wF rfl _ _ _ _ rfl seq 0 1 0 (by rfl) (by rfl) (by rfl) (by rfl) PG.toArray HPG.o.1 ?_)
    |(refine zk rfl _ _ _ rfl _ _ _ rfl rfl (by rw[HPG.o.2.1];rfl) hsi0.out HPG.o.2.2 ?_)
    |(refine qZg rfl _ _ rfl _ _ rfl _ _ hr3 underlying280 rfl hsi0.out ?_)
    |fail)
   refine H3.o.1.mono ?_;rintro e w4 ⟨hr4,hb4⟩;obtain rfl:e=.returned (.tuple #[.agg (bkC y).toArray,.int .i64 0]):=by
    rcases hr4 with⟨-,h⟩|⟨h,-⟩
    .rw [h,HY.o.1]
    .rw [hmay.out]at h;cases h
   have hA:=zc w4 (.cells (bkC y).toArray 54) rfl;have rA:=zh hA;have hu4:Upd (fun _=>False) (wr.alloc (.cells PG.toArray 280)) w4:=uuo hb4;have hua:Upd (fun _=>False) w4 (w4.alloc (.cells (bkC y).toArray 54)):=(uur _ _).alloc _;have hsl5:=qqh ((H3.o.2.1.keep hu4 (fun _ _ h=>h)).keep hua (fun _ _ h=>h));have H4:=Y2 hu4 hua;clear hr4 hb4 hu4 hua hA hcp hr3;go_wp2_with (first
    |(refine zk rfl _ _ _ rfl _ _ _ rfl rfl (by rw[HY.o.2.1];rfl) hy64.out HY.o.2.2 ?_)
    |(refine qZg rfl _ _ rfl _ _ rfl _ _ rA underlying54 rfl hy64.out ?_)
    |(refine xu rfl 41 54 _ rfl 64 (by decide) underlying41 ⟨i0,z,HK.o.1,HK.o.2.1,HK.o.2.2.1,HK.o.2.2.2.1⟩ (by decide) (bkC y) rfl HY.o.2.1 ?_)
    |(at_builtin;refine zS rfl _ _ _ rfl i0 z 64 underlying41 HK.o.1 HK.o.2.1 HK.o.2.2.2.1 HK.o.2.2.2.2 HK.o.2.2.1 (by decide) rfl hsl5.out (bkC y) (by rfl) HY.o.2.1 HY.o.2.2 (by unfold maxLen;omega) (by omega) ?_;intro v' w11 hs11 hu11 hbf)
    |fail)
   replace hu11:Upd (ownS (.slice ao 0 cc)) (w4.alloc (.cells (bkC y).toArray 54)) w11:=hu11;replace hbf:blockFrom (w4.alloc (.cells (bkC y).toArray 54)) (.slice ao 0 cc) v':=hbf;have HZ:=Y3 hs11 hu11 hbf;clear hs11 hu11 hbf rA;go_roundw
   case rel=>
    obtain⟨hs11,hu11,hbf⟩:=HZ.o;have hB4:Below w.heap.size w (w4.alloc (.cells (bkC y).toArray 54)):=zl H3.o.2.2 (H4.o.1.trans H4.o.2) (qXv _) (fun _ h=>h.elim);refine⟨1,by omega,by go_num,?_,hbf.ge hB4.size HS.o.2.1,zl hB4 hu11 (qXv _) HS.o.2.1.own⟩;rw[uk,uR];rw[HY.o.1]at hs11;exact hs11
   case measure=>simp[intOf]
  .obtain rfl:k=1:=by omega
   have HS:=Y3 hsl hf hb;obtain⟨ao,cc,rfl⟩:=hsl.rd.jd;clear hsl hf hb;go_wp2
   go_ret2
   exact⟨_,rfl,HS.o.1,HS.o.2.1,HS.o.2.2⟩
end Go.Proofs.YtfhfbpmlnjdfoaaGreatDoor
