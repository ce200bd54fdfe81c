/- Bytes of numbers: may, low, seal, Sealed. The  -/
import Derived.Test.YtfhfbpmlnjdfoaaGreatDoorG07
import Derived.Laws.EntriesVeiled
set_option maxRecDepth 100000
set_option maxHeartbeats 1000000
namespace Go.Proofs.YtfhfbpmlnjdfoaaGreatDoor
open Go Go.RowKit
def byV(n i:Nat):Value:=.int .u8 (((UInt8.ofNat (n/256^i)).toNat:Nat):Int)
theorem JE(n k:Nat):Value.int .u8 ((n:Int)/2^(8*k)%256)=byV n k:=by
 unfold byV;have h1:(UInt8.ofNat (n/256^k)).toNat=n/256^k%256:=by simp
 have h2:(256:Nat)^k=2^(8*k):=by rw[Nat.pow_mul]
 rw[h1,h2,Int.natCast_emod,Int.natCast_ediv,Int.natCast_pow];rfl
theorem Wr{w:World}(n size:Nat)(_hn:n<72057594037927936)(hs:size<=7)(fd:Nat)(caps:Array Value)(hent:∀args w,(callFunc fd args).run Tryz.prog w=.ok (.enter fd args) w)
  (J:Nat->World->Prop) (h0:J 0 w) (hput:∀i,i<size->∀w,J i w->Calls Tryz.prog fd (#[byV n i]++caps) w fun e w'=>e=.returned (.tuple #[])/\J (i+1) w'):
  Calls Tryz.prog 194 #[.int .i64 (n:Int),.int .i64 (size:Int),.func (.func fd) #[] caps] w fun e w'=>e=.returned (.tuple #[])/\J size w':=by
 have H:=Y2 h0 hput;clear h0 hput;go_enter Tryz.func194,Tryz.ntmps194
 go_wp2
 go_step3
 go_wp2
 go_step3
 go_wp2
 go_loopw[6] (fun i wr=>∃k:Nat,k<=size/\i=.int .i64 k/\J k wr) (fun i _=>size-(intOf i).toNat)
 case atStart=>exact⟨0,qYf _,rfl,H.o.1⟩
 case round=>
  obtain⟨k,hk,rfl,hJ⟩:=hrel;have HJ:=qqh hJ;clear hJ;by_cases hlt:k<size
  .have hq:((k:Int)==(size:Int))=false:=by rw[qYv];omega
   go_wp2_with fail
   rw[JE];refine(H.o.2 k hlt wr HJ.o).mono ?_;rintro e w2 ⟨rfl,hJ2⟩;have HJ2:=qqh hJ2;clear hJ2;go_wp2
   go_roundw
   case rel=>exact⟨k+1,by omega,by go_num,HJ2.o⟩
   case measure=>simp[intOf];omega
  .obtain rfl:k=size:=by omega
   go_wp2
   try rw[Exit.noGoto_normal]
   go_end0
   exact⟨rfl,HJ.o⟩
theorem Tc(n size left:Nat)(h1:1<=size)(h2:size<=7)(hn:n<256^size)(hl:size<=left)(_hl2:left<=60)(w:World):
  Calls Tryz.prog 192 #[.int .i64 (n:Int),.int .i64 (size:Int),.int .i64 (left:Int)] w fun e w'=>e=.returned (.int .i64 0)/\w'=w:=by
 have hsh:Hid ((n:Int)/2^(8*size)=0):=by
  show _=_;have e:(256:Nat)^size=2^(8*size):=by rw[Nat.pow_mul]
  rw[e]at hn;have:((n/2^(8*size):Nat):Int)=0:=by rw[Nat.div_eq_of_lt hn];rfl
  rw[Int.natCast_ediv,Int.natCast_pow]at this;exact this
 have hn2:n<72057594037927936:=qXy hn (Nat.pow_le_pow_right (n:=256) (by omega) h2);clear hn;have q1:decide ((size:Int)<1)=false:=by simp;omega
 have q2:decide ((7:Int)<(size:Int))=false:=by simp;omega
 have q3:decide ((n:Int)<0)=false:=by simp
 have q4:=hsh.out;go_enter Tryz.func192,Tryz.ntmps192
 go_wp2
 go_ret
 exact⟨rfl,rfl⟩
def padB(bs:List UInt8):Bk:=bs++List.replicate (64-bs.length) 0
theorem ww{bs:List UInt8}(h:bs.length<=64):(padB bs).length=64:=by simp[padB];omega
theorem Vw{bs:List UInt8}(h:bs.length<64)(b:UInt8):padB (bs++[b])=(padB bs).set bs.length b:=by
 unfold padB;have e:64-bs.length=(64-(bs++[b]).length)+1:=by simp;omega
 rw[e,List.replicate_succ,qXj _ _ (qXv _)];simp
theorem ru(n i:Nat):lowB n (i+1)=lowB n i++[UInt8.ofNat (n/256^i)]:=by
 induction i generalizing n with
 |zero=>simp[lowB]
 |succ i ih=>
  have h1:=ih (n/256);show UInt8.ofNat n::lowB (n/256) (i+1)=(UInt8.ofNat n::lowB (n/256) i)++_;rw[h1,qya,Nat.div_div_eq_div_mul,Nat.pow_succ,Nat.mul_comm]
theorem Ws(x:Bk)(i:Nat)(b:UInt8):bkC (x.set i b)=(bkC x).set i (Go.Extern.Stop.cell b):=by simp[bkC,List.map_set]
def WrAt(w:World)(g:Nat)(bs:List UInt8):Prop:=
 bs.length<=60/\w.heap[g]?=some (.cells (bkC (padB bs)++[Value.int .i64 (bs.length:Int),Value.int .i64 0]).toArray 316 (0,0))
section
variable{w w':World}{g:Nat}{bs:List UInt8}
theorem WrAt.lt(h:WrAt w g bs):g<w.heap.size:=zd h.2
theorem WrAt.keep(h:WrAt w g bs){S:Nat->Prop}(hu:Upd S w w')(hs:¬S g):WrAt w' g bs:=⟨h.1,(hu.block g h.lt hs).trans h.2⟩
theorem WrAt.len(h:WrAt w g bs):(bkC (padB bs)).length=64:=by rw[zo,ww (by have:=h.1;omega)]
theorem WrAt.c64(h:WrAt w g bs):w.cell? ⟨g,64,none⟩=some (.int .i64 (bs.length:Int)):=by
 rw[za h.2,qyv,qyj (by rw[h.len];omega),h.len];rfl
theorem WrAt.c65(h:WrAt w g bs):w.cell? ⟨g,65,none⟩=some (.int .i64 0):=by
 rw[za h.2,qyv,qyj (by rw[h.len];omega),h.len];rfl
theorem WrAt.fz(h:WrAt w g bs)(i:Nat):w.frozen? ⟨g,i,none⟩=false:=zf h.2 i
theorem WrAt.range(h:WrAt w g bs):w.rangeAt g 0 (bkC (padB bs)):=fun j v hv=>by
 have hj:=(qyp.1 hv).1;rw[za h.2,qYe,qyv,qyi hj];exact hv
theorem WrAt.some(h:WrAt w g bs){i:Nat}(hi:i<66):∃v,w.cell? ⟨g,i,none⟩=some v:=by
 rw[za h.2,qyv];exact⟨_,qyn (by rw[qzd,h.len];exact hi)⟩
theorem WrAt.push(h:WrAt w g bs)(hl:bs.length<60)(b:UInt8)(hw:Upd (fun _=>False) (w.setCell ⟨g,bs.length,none⟩ (Go.Extern.Stop.cell b)) w'):
  WrAt (w'.setCell ⟨g,64,none⟩ (.int .i64 ((bs++[b]).length:Int))) g (bs++[b]):=by
 refine⟨by simp;omega,?_⟩;have h1:=zh h.2 bs.length (Go.Extern.Stop.cell b);have h2:=(hw.block g (zd h1) (fun h=>h)).trans h1;have h3:=zh h2 64 (.int .i64 ((bs++[b]).length:Int));rw[h3]
 congr 2
 rw[qXi,qXi,List.set_append_left _ _ (by rw[h.len];omega),<-Ws,<-Vw (by omega)];have hl2:(bkC (padB (bs++[b]))).length=64:=by rw[zo,ww (by simp;omega)]
 rw[qXj _ _ (by omega),hl2];rfl
end
theorem Ay{w:World}{g g0:Nat}{bs:List UInt8}(h:WrAt w g bs)(hl:bs.length<60)(b:UInt8)(hc:w.cell? ⟨g0,0,none⟩=some (.pointer (some ⟨g,0,none⟩)))(hne:¬g=g0):
  Calls Tryz.prog 193 #[.int .u8 ((b.toNat:Nat):Int),.pointer (some ⟨g0,0,none⟩)] w fun e w'=>e=.returned (.tuple #[])/\WrAt w' g (bs++[b])/\Upd (fun j=>j=g) w w':=by
 have c64:=h.c64;obtain⟨v0,cb⟩:=h.some (i:=bs.length) (by omega);have hfz:=h.fz bs.length;have hfz2:=h.fz 64;have hU:Upd (fun j=>j=g) w ((w.setCell ⟨g,bs.length,none⟩ (.int .u8 ((b.toNat:Nat):Int))).drew.setCell ⟨g,64,none⟩ (.int .i64 ((bs.length:Int)+1))):=((zi _ _ _ _).drew).trans (zi _ _ _ _);have hP:WrAt ((w.setCell ⟨g,bs.length,none⟩ (.int .u8 ((b.toNat:Nat):Int))).drew.setCell ⟨g,64,none⟩ (.int .i64 ((bs.length:Int)+1))) g (bs++[b]):=by
  have:=h.push hl b ((uur (fun _=>False) _).drew);rw[qzd]at this;exact this
 have HP:=Y2 hP hU;have hb1:0<=(bs.length:Int)/\(bs.length:Int)<60:=⟨by omega,by omega⟩
 obtain⟨hb1,hb2⟩:=hb1;clear h hP hU;go_enter Tryz.func193,Tryz.ntmps193
 go_wp2
 go_region
 go_wp2
 go_end0
 exact⟨rfl,HP.o.1,HP.o.2⟩
theorem WrAt.set65{w:World}{g:Nat}{bs:List UInt8}(h:WrAt w g bs):WrAt (w.setCell ⟨g,65,none⟩ (.int .i64 0)) g bs:=by
 refine⟨h.1,?_⟩;rw[zh h.2 65 (.int .i64 0)]
 congr 2
 rw[qXi,qXj _ _ (by rw[h.len];omega),h.len];rfl
theorem rf{w:World}{g o b o':Nat}{v u:Value}(h:w.cell? ⟨g,o,none⟩=some v)(hne:o'≠o):(w.setCell ⟨b,o',none⟩ u).cell? ⟨g,o,none⟩=some v:=by
 rw[World.cell?_setCell_other _ _ _ _ (fun e=>hne (congrArg Addr.off e)),h]
theorem Xj(w:World):Calls Tryz.prog 122 #[] w fun e w'=>∃g,e=.returned (.pointer (some ⟨g,0,none⟩))/\WrAt w' g []/\w.heap.size<=g/\Below w.heap.size w w':=by
 go_enter Tryz.func122,Tryz.ntmps122
 go_wp2
 go_ret
 refine⟨w.heap.size,rfl,⟨by simp,zc w _ rfl⟩,qXv _,(qxl _ w).alloc (qXv _) _⟩
theorem Vx{w:World}{g:Nat}{bs:List UInt8}(h:WrAt w g bs)(n size:Nat)(h1:1<=size)(h2:size<=7)(hn:n<256^size)(hl:bs.length+size<=60):
  Calls Tryz.prog 123 #[.pointer (some ⟨g,0,none⟩),.int .i64 (n:Int),.int .i64 (size:Int)] w fun e w'=>e=.returned (.pointer (some ⟨g,0,none⟩))/\WrAt w' g (bs++lowB n size)/\Upd (fun j=>j=g) w w':=by
 have hmf:=qqf;have hua:Upd (fun _=>False) w (w.alloc (.cells #[.pointer (some ⟨g,0,none⟩)] 213)):=(uur _ _).alloc _;have h':=h.keep hua (fun h=>h);have c0:(w.alloc (.cells #[.pointer (some ⟨g,0,none⟩)] 213)).cell? ⟨w.heap.size,0,none⟩=some (.pointer (some ⟨g,0,none⟩)):=za (zc w _ rfl) 0;have c64:=h'.c64;have c65:=h'.c65;have z65:=h'.fz 65;have hgl:=h.lt;have hne:¬g=w.heap.size:=by omega
 have hne2:w.heap.size≠g:=by omega
 have H:=Y6 h' hua hn h2 hl h1;have hs1:(60:Int)-bs.length=((60-bs.length:Nat):Int):=by omega
 have hsw:IntKind.i64.wrap (60-(bs.length:Int))=((60-bs.length:Nat):Int):=by rw[hs1,qxv _ (by omega)]
 clear h' hua hn h h1 hs1;go_enter Tryz.func123,Tryz.ntmps123
 go_wp2
 generalize (w.alloc (.cells #[.pointer (some ⟨g,0,none⟩)] 213))=w1 at*;generalize w.heap.size=m at*
 go_region_held3 (fun W=>W.cell? ⟨m,0,none⟩=some (.pointer (some ⟨g,0,none⟩))/\W.cell? ⟨g,64,none⟩=some (.int .i64 (bs.length:Int)))
  ((go_split_ands;(simp only[qYo]at*);((repeat' constructor)<;>first|assumption|(refine zq ?_ ?_<;>assumption)|(refine rf ?_ (by decide);assumption))))
  (first|(go_at_call 192;refine(Tc n size (60-bs.length) H.o.2.2.2.2.2 H.o.2.2.2.1 H.o.2.2.1 (by have:=H.o.2.2.2.2.1;omega) (by omega) _).mono ?_;rintro e w' ⟨rfl,rfl⟩))
 have hW2:WrAt (w1.setCell ⟨g,65,none⟩ (.int .i64 0)).drew g bs:=(H.o.1.set65).keep ((uur (fun _=>False) _).drew) (fun h=>h);have hU2:Hid (Upd (fun j=>j=g) w (w1.setCell ⟨g,65,none⟩ (.int .i64 0)).drew):=(H.o.2.1.mono (fun _ _ h=>h.elim)).trans ((zi _ _ _ _).drew);have c02:(w1.setCell ⟨g,65,none⟩ (.int .i64 0)).drew.cell? ⟨m,0,none⟩=some (.pointer (some ⟨g,0,none⟩)):=by
  rw[qYo];exact zq c0 hne
 rename_i hHeld
 clear hHeld;generalize (w1.setCell ⟨g,65,none⟩ (.int .i64 0)).drew=w2 at*;have c65':=hW2.c65;have HW:=Y2 hW2 c02;clear hW2 c0 c64 c65 z65;go_wp2_with fail
 refine(Wr (w:=w2) n size (qXy H.o.2.2.1 (Nat.pow_le_pow_right (n:=256) (by omega) h2)) h2 193 #[.pointer (some ⟨m,0,none⟩)] (fun _ _=>rfl)
  (fun i W=>WrAt W g (bs++lowB n i)/\Upd (fun j=>j=g) w2 W) ⟨by simpa[lowB]using HW.o.1,uur _ _⟩ ?_).mono ?_
 .intro i hi W hJ;refine(Ay hJ.1 (by rw[qzd,zU];omega) (UInt8.ofNat (n/256^i)) (hJ.2.cellv HW.o.2 hne2) hne).mono ?_;rintro e w' ⟨rfl,h3,h4⟩;refine⟨rfl,?_,hJ.2.trans h4⟩;rw[ru,<-qxx];exact h3
 .rintro e w3 ⟨rfl,hW3,hU3⟩;have c03:=hU3.cellv HW.o.2 hne2;have HZ:=Y2 hW3 hU3;clear hW3 hU3;go_wp2
  go_ret
  exact⟨rfl,HZ.o.1,hU2.out.trans HZ.o.2⟩
theorem Az{w:World}{gb ga:Nat}{x:Bk}{i:Nat}(hg:w.heap[gb]?=some (.cells (bkC x).toArray 54 (0,0)))(hx:x.length=64)(hi:i<64)(b:UInt8)
  (ha:w.heap[ga]?=some (.cells #[.int .i64 (i:Int)] 3 (0,0))) (hne:¬gb=ga):
  Calls Tryz.prog 269 #[.int .u8 ((b.toNat:Nat):Int),.pointer (some ⟨gb,0,none⟩),.pointer (some ⟨ga,0,none⟩)] w fun e w'=>e=.returned (.tuple #[])/\
   w'.heap[gb]?=some (.cells (bkC (x.set i b)).toArray 54 (0,0))/\w'.heap[ga]?=some (.cells #[.int .i64 ((i+1:Nat):Int)] 3 (0,0))/\Upd (fun j=>j=gb\/j=ga) w w':=by
 have c0:w.cell? ⟨ga,0,none⟩=some (.int .i64 (i:Int)):=za ha 0;have z0:=zf ha 0;have cb:∃v,w.cell? ⟨gb,i,none⟩=some v:=by
  rw[za hg];exact⟨_,qxe (by rw[zl _ hx];exact hi)⟩
 obtain⟨v0,cb⟩:=cb;have zb:=zf hg i;have hU:Upd (fun j=>j=gb\/j=ga) w ((w.setCell ⟨gb,i,none⟩ (.int .u8 ((b.toNat:Nat):Int))).setCell ⟨ga,0,none⟩ (.int .i64 ((i:Int)+1))):=
  ((zi w gb i _).mono (fun _ _ h=> .inl h)).trans ((zi _ _ _ _).mono (fun _ _ h=> .inr h))
 have h1:=zh hg i (.int .u8 ((b.toNat:Nat):Int));have h2:((w.setCell ⟨gb,i,none⟩ (.int .u8 ((b.toNat:Nat):Int))).setCell ⟨ga,0,none⟩ (.int .i64 ((i:Int)+1))).heap[gb]?=some (.cells (bkC (x.set i b)).toArray 54 (0,0)):=by
  rw[(zi _ ga 0 _).block gb (zd h1) hne,h1,qXi,Ws];rfl
 have h3:((w.setCell ⟨gb,i,none⟩ (.int .u8 ((b.toNat:Nat):Int))).setCell ⟨ga,0,none⟩ (.int .i64 ((i:Int)+1))).heap[ga]?=some (.cells #[.int .i64 ((i+1:Nat):Int)] 3 (0,0)):=
  zh (((zi w gb i (.int .u8 ((b.toNat:Nat):Int))).block ga (zd ha) (fun e=>hne e.symm)).trans ha) 0 _
 have hb1:0<=(i:Int)/\(i:Int)<64:=⟨by omega,by omega⟩
 obtain⟨hb1,hb2⟩:=hb1;have H:=Y3 h2 h3 hU;clear hU h1 h2 h3 hg ha;go_enter Tryz.func269,Tryz.ntmps269
 go_wp2
 go_end0
 exact⟨rfl,H.o.1,H.o.2.1,H.o.2.2⟩
def xL(b:Bk)(i:Nat):Bk:=b.take 60++lowB (crcC (b.take 60)) i++b.drop (60+i)
theorem Xk{b:Bk}(h:b.length=64){i:Nat}(hi:i<=4):(xL b i).length=64:=by simp[xL,zU,h];omega
theorem ZP(b:Bk):xL b 0=b:=by simp[xL,lowB]
theorem ZQ{b:Bk}(h:b.length=64):xL b 4=sealB b:=by
 unfold xL sealB;rw[List.drop_of_length_le (by omega),qxy]
theorem Xl{b:Bk}(h:b.length=64){i:Nat}(hi:i<4):(xL b i).set (60+i) (UInt8.ofNat (crcC (b.take 60)/256^i))=xL b (i+1):=by
 unfold xL;have hl:(b.take 60++lowB (crcC (b.take 60)) i).length=60+i:=by simp[zU,h]
 rw[qXj _ _ (by rw[hl];exact qXv _),hl,Nat.sub_self,ru];have hd:b.drop (60+i)=b[60+i]'(by omega)::b.drop (60+(i+1)):=qyb (by omega);rw[hd,qXl];simp
theorem xw(w:World)(A B C D:Obj):let W:=(((w.alloc A).alloc B).alloc C).alloc D
  W.heap[w.heap.size]?=some A/\W.heap[w.heap.size+1]?=some B/\W.heap[w.heap.size+1+1]?=some C/\W.heap[w.heap.size+1+1+1]?=some D/\W.heap.size=w.heap.size+4/\Upd (fun _=>False) w W:=by
 refine⟨?_,?_,?_,zc _ _ (by simp),by simp,((((uur _ w).alloc _).alloc _).alloc _).alloc _⟩
 .rw [qxk _ _ _ (by simp<;>omega),qxk _ _ _ (by simp<;>omega),qxk _ _ _ (by simp)];exact zc w _ rfl
 .rw [qxk _ _ _ (by simp<;>omega),qxk _ _ _ (by simp)];exact zc _ _ (by simp)
 .rw [qxk _ _ _ (by simp)];exact zc _ _ (by simp)
theorem tU{w:World}(b:Bk)(hb:b.length=64)(hN:Nib w):
  Calls Tryz.prog 195 #[.agg (bkC b).toArray] w fun e w'=>e=.returned (.agg (bkC (sealB b)).toArray)/\Below w.heap.size w w':=by
 have hmf:=qqf;have HN:=qqh hN;have Hb:=qqh hb;clear hN hb;go_enter Tryz.func195,Tryz.ntmps195
 go_wp2_with fail
 show Calls _ _ _ ((((w.alloc (.cells (bkC b).toArray 54)).alloc (.cells (bkC zB).toArray 54)).alloc (.cells #[.int .i64 60] 3)).alloc (.cells #[.slice (some ⟨w.heap.size,0,none⟩) 60 64] 205)) _;obtain⟨hA,hB,hC,hD,hS,hU⟩:=xw w (.cells (bkC b).toArray 54) (.cells (bkC zB).toArray 54) (.cells #[.int .i64 60] 3) (.cells #[.slice (some ⟨w.heap.size,0,none⟩) 60 64] 205);generalize (((w.alloc (.cells (bkC b).toArray 54)).alloc (.cells (bkC zB).toArray 54)).alloc (.cells #[.int .i64 60] 3)).alloc (.cells #[.slice (some ⟨w.heap.size,0,none⟩) 60 64] 205)=w4 at*;have hr:=zg hA;have hrt:w4.rangeAt w.heap.size 0 (bkC (b.take 60)):=fun j v hv=>by
  refine hr j v ?_;have hj:=(qyp.1 hv).1;rw[zo,qzk]at hj;simp only[bkC,qyq]at hv⊢;rw[qyu,if_pos (by omega)]at hv;exact hv
 refine(vN (b.take 60) (HN.o.keep hU (fun h=>h)) (za hD 0) hrt (by rw[qzk,Hb.out];rfl) (by omega) (by omega)).mono ?_;rintro e w5 ⟨rfl,hb5⟩;have hU5:=qqb hb5;have hA5:=(hb5.block _ (zd hA)).trans hA;have hB5:=(hb5.block _ (zd hB)).trans hB;have hC5:=(hb5.block _ (zd hC)).trans hC;have H5:=Y4 hA5 hB5 hC5 (hU.trans hU5);clear hA hB hC hD hS hU hr hrt hb5 hU5 hA5 hB5 hC5;have Hs:=qqh (wK (b.take 60));obtain⟨m,Hm⟩:∃m,Hid (m=w.heap.size):=⟨_,rfl⟩
 have hsum:Hid (∀i,UInt8.ofNat (crcC (b.take 60)/256^i)=UInt8.ofNat (crcC (b.take 60)/256^i)):=fun _=>rfl;go_wp2_with fail
 refine(Wr (w:=w5) (crcC (b.take 60)) 4 (by have:=Hs.out;omega) (by omega) 269 #[.pointer (some ⟨w.heap.size,0,none⟩),.pointer (some ⟨w.heap.size+1+1,0,none⟩)] (fun _ _=>rfl)
  (fun i W=>W.heap[w.heap.size]?=some (.cells (bkC (xL b i)).toArray 54 (0,0))/\W.heap[w.heap.size+1+1]?=some (.cells #[.int .i64 ((60+i:Nat):Int)] 3 (0,0))/\Upd (fun j=>j=w.heap.size\/j=w.heap.size+1+1) w5 W) ⟨by rw[ZP];exact H5.o.1,H5.o.2.2.1,uur _ _⟩ ?_).mono ?_
 .intro i hi W hJ;refine(Az hJ.1 (Xk Hb.out (by omega)) (by omega) (UInt8.ofNat (crcC (b.take 60)/256^i)) hJ.2.1 (by omega)).mono ?_;rintro e w' ⟨rfl,h1,h2,h3⟩;rw[Xl Hb.out hi]at h1;exact⟨rfl,h1,h2,hJ.2.2.trans h3⟩
 .rintro e w6 ⟨rfl,h1,h2,h3⟩;rw[ZQ Hb.out]at h1;have hsl:=wL Hb.out;have r6:=zg h1;have hg6:=(h3.block (w.heap.size+1) (zd H5.o.2.1) (by omega)).trans H5.o.2.1;have hth:w6.there (w.heap.size+1) 0 64:=fun j hj=>by
   rw[za hg6,zf hg6];exact⟨by rw[qYe,qxe (by rw[zl _ zw];exact hj)];rfl,rfl⟩
  have hst:w6.there (w.heap.size+1) 0 (bkC (sealB b)).toArray.size:=by rw[zl _ hsl];exact hth
  have hst2:w6.there (w.heap.size+1) 0 (bkC (sealB b)).length:=by rw[zo,hsl];exact hth
  have hsz2:(Tryz.prog.info? 54).map (·.size)=some (bkC (sealB b)).toArray.size:=by rw[zl _ hsl];exact zF
  have HST:=Y5 hst hsz2 hst2 hsl h3;clear hst hsz2 hst2 hsl h3 h1 h2 hg6 hth;generalize hsb:sealB b=sb at*;have Hsb:=qqh hsb;clear hsb;go_wp2_with (first
   |(refine qZg rfl _ _ rfl _ _ rfl _ _ r6 Tryz.underlying54 rfl (zt _ HST.o.2.2.2.1) ?_)
   |(refine qZi rfl _ _ _ rfl _ _ (bkC sb).toArray rfl rfl HST.o.1 HST.o.2.1 (qYu (zv _)) ?_)
   |fail)
  exact qYw (zM rfl _ _ (w.heap.size+1) 0 (bkC sb) _ rfl (qYr _ _ _ _ HST.o.2.2.1) Tryz.underlying54 rfl (zt _ HST.o.2.2.2.1)) rfl
   ⟨by rw[Hsb.out],zj (zj (Upd.below H5.o.2.2.2) HST.o.2.2.2.2 (qXv _) (fun k e=>by omega)) (zp w6 (w.heap.size+1) 0 _) (qXv _) (fun k e=>by omega)⟩
theorem RK(w:World):(sizeOf 5).run Tryz.prog w=.ok 1 w:=by
 have hu:(Tryz.prog.info? 5).map (·.size)=some 1:=by kernel_rfl
 obtain⟨i,hi,hs⟩:=qYi.1 hu;simp[sizeOf,typeInfo,hi,hs]
theorem tx(x y:Bk)(hx:x.length=64)(hy:y.length=64)(w:World):(Op.equalIn 10000 54 (.agg (bkC x).toArray) (.agg (bkC y).toArray)).run Tryz.prog w=.ok (x==y) w:=
 run_equalIn_bytes (P:=Tryz.prog) w 9998 54 5 64 Tryz.underlying54 Tryz.underlying5 RK x y hx hy
theorem Below.range{W W':World}(hb:Below W.heap.size W W'){b o:Nat}{cs:List Value}(h:W.rangeAt b o cs):W'.rangeAt b o cs:=
 (uuo (S:=fun _=>False) hb).range h (fun h=>h)
theorem yg{w w':World}(h:Below w.drew.heap.size w.drew w'):Below w.heap.size w w':=⟨h.os,h.tape,h.output,h.size,h.block⟩
def sealedC(b:Bk):Int:=if sealB b=b then 0 else 13
theorem vn{w:World}(b:Bk)(hb:b.length=64)(hN:Nib w):
  Calls Tryz.prog 197 #[.agg (bkC b).toArray] w fun e w'=>e=.returned (.int .i64 (sealedC b))/\Below w.heap.size w w':=by
 have hua:Upd (fun _=>False) w (w.alloc (.cells (bkC b).toArray 54)):=(uur _ w).alloc _;have hr:=zg (zc w (.cells (bkC b).toArray 54) rfl);have hut:=Tryz.underlying54;have hsi:=zt b hb;have hlx:(bkC b).length=64:=by rw[zo,hb]
 have hq:=tx (sealB b) b (wL hb) hb;have HN:Hid (Nib (w.alloc (.cells (bkC b).toArray 54)).drew):=(hN.keep hua (fun h=>h)).keep ((uur (fun _=>False) _).drew) (fun h=>h);have HU:=qqh hua;have Hb:=qqh hb;clear hN hua hb;by_cases hs:sealB b=b
 .have hsc:Hid (sealedC b=0):=if_pos hs;have hqq:(sealB b==b)=true:=by simpa using hs
  have hqn:(!(sealB b==b))=false:=by rw[hqq];rfl
  clear hs;go_enter Tryz.func197,Tryz.ntmps197
  go_wp2_with fail
  refine qZj (S:=fun W=>W.rangeAt w.heap.size 0 (bkC b)) (by kernel_rfl) (by rw[qYq];exact hr) (fun hHeld=>?_)
  refine' qZf (i:=0) rfl (by kernel_rfl) (by kernel_rfl) (by kernel_rfl) (fun _ _ _ h=>h) (qZl (by rfl) _ _ rfl _ _ rfl _ _ (fun w h=>h) hut rfl hsi) hHeld _
  simp only[Act.put,qXi]
  refine' qZf (i:=2) rfl (by kernel_rfl) (by kernel_rfl) (by kernel_rfl) (fun _ _ _ h=>h) (qZl (by rfl) _ _ rfl _ _ rfl _ _ (fun w h=>h) hut rfl hsi) hHeld _
  simp only[Act.put];refine Wl.r 1 (fun K hK=>?_);go_simp
  refine(tU b Hb.out HN.o).mono ?_;rintro e w2 ⟨rfl,hb2⟩;refine hK.o _ _ (Below.range hb2 hHeld) (fun hHeld2=>?_);clear hK K;refine Wl.r 3 (fun K hK=>?_);go_simp
  refine hK.o _ _ hHeld2 (fun _=>?_);clear hK K;refine Wl.d ?_;have HB:Hid (Below w.heap.size w w2):=(Upd.below HU.o).trans ((yg hb2).mono HU.o.size);clear hHeld hHeld2 hb2;go_wp2
  go_ret
  exact⟨by rw[hsc.out];rfl,HB.o⟩
 .have hsc:Hid (sealedC b=13):=if_neg hs;have hqq:(sealB b==b)=false:=by simpa using hs
  have hqn:(!(sealB b==b))=true:=by rw[hqq];rfl
  clear hs;go_enter Tryz.func197,Tryz.ntmps197
  go_wp2_with fail
  refine qZj (S:=fun W=>W.rangeAt w.heap.size 0 (bkC b)) (by kernel_rfl) (by rw[qYq];exact hr) (fun hHeld=>?_)
  refine' qZf (i:=0) rfl (by kernel_rfl) (by kernel_rfl) (by kernel_rfl) (fun _ _ _ h=>h) (qZl (by rfl) _ _ rfl _ _ rfl _ _ (fun w h=>h) hut rfl hsi) hHeld _
  simp only[Act.put,qXi]
  refine' qZf (i:=2) rfl (by kernel_rfl) (by kernel_rfl) (by kernel_rfl) (fun _ _ _ h=>h) (qZl (by rfl) _ _ rfl _ _ rfl _ _ (fun w h=>h) hut rfl hsi) hHeld _
  simp only[Act.put];refine Wl.r 1 (fun K hK=>?_);go_simp
  refine(tU b Hb.out HN.o).mono ?_;rintro e w2 ⟨rfl,hb2⟩;refine hK.o _ _ (Below.range hb2 hHeld) (fun hHeld2=>?_);clear hK K;refine Wl.r 3 (fun K hK=>?_);go_simp
  refine hK.o _ _ hHeld2 (fun _=>?_);clear hK K;refine Wl.d ?_;have HB:Hid (Below w.heap.size w w2):=(Upd.below HU.o).trans ((yg hb2).mono HU.o.size);clear hHeld hHeld2 hb2;go_wp2
  go_ret
  exact⟨by rw[hsc.out];rfl,HB.o⟩
theorem Td{w:World}{g:Nat}{bs:List UInt8}(h:WrAt w g bs)(hN:Nib w):
  Calls Tryz.prog 124 #[.pointer (some ⟨g,0,none⟩)] w fun e w'=>e=.returned (.tuple #[.agg (bkC (sealB (padB bs))).toArray,.int .i64 0])/\Below w.heap.size w w':=by
 have H:=Y2 h hN;have hlw:=h.lt;clear h hN;have hu:Upd (fun _=>False) w (w.alloc (.cells (bkC zB).toArray 54)):=(uur _ w).alloc _;have hg1:=zc w (.cells (bkC zB).toArray 54) rfl;have h1:=H.o.1.keep hu (fun h=>h);have c65:=H.o.1.c65;have rr:=H.o.1.range;have hpl:Hid ((padB bs).length=64):=ww (by have:=h1.1;omega);have HX:=Y3 h1 hu hg1;clear h1 hu hg1;go_enter Tryz.func124,Tryz.ntmps124
 go_wp2_with (first
  |(refine qZg rfl _ _ rfl _ _ rfl _ _ (qYp rr _) Tryz.underlying54 rfl (zt _ hpl.out) ?_)
  |fail)
 show Calls _ _ _ (w.alloc (.cells (bkC zB).toArray 54)) _;generalize (w.alloc (.cells (bkC zB).toArray 54))=w1 at*;obtain⟨h1,hu,hg1⟩:=HX.o;refine(tU (padB bs) hpl.out (H.o.2.keep hu (fun h=>h))).mono ?_;rintro e w6 ⟨rfl,hb⟩;have hsl:=wL hpl.out;have hg6:=(hb.block w.heap.size (zd hg1)).trans hg1;have hth:w6.there w.heap.size 0 64:=fun j hj=>by
  rw[za hg6,zf hg6];exact⟨by rw[qYe,qxe (by rw[zl _ zw];exact hj)];rfl,rfl⟩
 have hst:w6.there w.heap.size 0 (bkC (sealB (padB bs))).toArray.size:=by rw[zl _ hsl];exact hth
 have hst2:w6.there w.heap.size 0 (bkC (sealB (padB bs))).length:=by rw[zo,hsl];exact hth
 have hsz2:(Tryz.prog.info? 54).map (·.size)=some (bkC (sealB (padB bs))).toArray.size:=by rw[zl _ hsl];exact zF
 have HST:=Y6 hst hsz2 hst2 hsl hb hu;clear hst hsz2 hst2 hsl hg6 hth h1 hu hg1 hb;generalize hsb:sealB (padB bs)=sb at*;have Hsb:=qqh hsb;clear hsb;go_wp2_with (first
  |(refine qZi rfl _ _ _ rfl _ _ (bkC sb).toArray rfl rfl HST.o.1 HST.o.2.1 (qYu (zv _)) ?_)
  |fail)
 exact qYw (zn rfl _ _ w.heap.size 0 (bkC sb) _ rfl (qYr _ _ _ _ HST.o.2.2.1) Tryz.underlying54 rfl (zt _ HST.o.2.2.2.1)) rfl
   ⟨by rw[Hsb.out];rfl,zj ((Upd.below HST.o.2.2.2.2.2).trans (HST.o.2.2.2.2.1.mono HST.o.2.2.2.2.2.size)) (zp w6 w.heap.size 0 _) (qXv _) (fun k e=>by omega)⟩
def yJ(w:World)(g:Nat)(b:Bk)(at_:Nat):Prop:=
 b.length=64/\at_<=60/\w.heap[g]?=some (.cells (bkC b++[Value.int .i64 (at_:Int),Value.int .i64 0]).toArray 396 (0,0))
section
variable{w w':World}{g at_:Nat}{b:Bk}
theorem yJ.lt(h:yJ w g b at_):g<w.heap.size:=zd h.2.2
theorem yJ.keep(h:yJ w g b at_){S:Nat->Prop}(hu:Upd S w w')(hs:¬S g):yJ w' g b at_:=⟨h.1,h.2.1,(hu.block g h.lt hs).trans h.2.2⟩
theorem yJ.len(h:yJ w g b at_):(bkC b).length=64:=by rw[zo,h.1]
theorem yJ.c64(h:yJ w g b at_):w.cell? ⟨g,64,none⟩=some (.int .i64 (at_:Int)):=by
 rw[za h.2.2,qyv,qyj (by rw[h.len];omega),h.len];rfl
theorem yJ.c65(h:yJ w g b at_):w.cell? ⟨g,65,none⟩=some (.int .i64 0):=by
 rw[za h.2.2,qyv,qyj (by rw[h.len];omega),h.len];rfl
theorem yJ.fz(h:yJ w g b at_)(i:Nat):w.frozen? ⟨g,i,none⟩=false:=zf h.2.2 i
theorem yJ.byte(h:yJ w g b at_){i:Nat}(hi:i<b.length):w.cell? ⟨g,i,none⟩=some (.int .u8 ((b[i].toNat:Nat):Int)):=by
 rw[za h.2.2,qyv,qyi (by rw[zo];exact hi)];simp only[bkC,qyq,qyn hi,Option.map_some];rfl
theorem yJ.set65(h:yJ w g b at_):yJ (w.setCell ⟨g,65,none⟩ (.int .i64 0)) g b at_:=by
 refine⟨h.1,h.2.1,?_⟩;rw[zh h.2.2 65 (.int .i64 0)]
 congr 2
 rw[qXi,qXj _ _ (by rw[h.len];omega),h.len];rfl
theorem yJ.set64(h:yJ w g b at_){n:Nat}(hn:n<=60):yJ (w.setCell ⟨g,64,none⟩ (.int .i64 (n:Int))) g b n:=by
 refine⟨h.1,hn,?_⟩;rw[zh h.2.2 64 (.int .i64 (n:Int))]
 congr 2
 rw[qXi,qXj _ _ (by rw[h.len];omega),h.len];rfl
end
theorem Vy(l:List UInt8)(b:UInt8):numB (l++[b])=numB l|||(b.toNat<<<(8*l.length))/\numB (l++[b])=numB l+b.toNat*2^(8*l.length)/\numB l<2^(8*l.length):=by
 have hlt:∀l:List UInt8,numB l<2^(8*l.length):=by
  intro l
  induction l with
  |nil=>simp[numB]
  |cons a l ih=>
   have ha:=a.toNat_lt;simp only[numB,qze];rw[show 8*(l.length+1)=8*l.length+8 by omega,Nat.pow_add];omega
 have hadd:numB (l++[b])=numB l+b.toNat*2^(8*l.length):=by
  induction l with
  |nil=>simp[numB]
  |cons a l ih=>
   simp only[qya,numB,qze];rw[ih,show 8*(l.length+1)=8+8*l.length by omega,Nat.pow_add];rw[show(2:Nat)^8=256 from rfl];rw[Nat.mul_add,qXr,Nat.mul_left_comm]
 refine⟨?_,hadd,hlt l⟩;rw[hadd,Nat.shiftLeft_eq,Nat.add_comm,Nat.mul_comm,Nat.two_pow_add_eq_or_of_lt (hlt l),Nat.or_comm]
theorem Xm(M:Nat)(h:M<4611686018427387904):wrap64 (M:Int)=M:=by unfold wrap64;omega
theorem JF(A c m:Nat)(hA:A<281474976710656)(hc:c<256)(hm:2^m<=281474976710656):bits .or .i64 (A:Int) (wrap64 ((c:Int)*2^m))=((A|||c<<<m:Nat):Int):=by
 have h1:c*2^m<=255*281474976710656:=Nat.mul_le_mul (by omega) hm;have hcast:((c:Int)*2^m)=((c*2^m:Nat):Int):=by rw[Int.natCast_mul,Int.natCast_pow];rfl
 rw[hcast,<-Nat.shiftLeft_eq];rw[<-Nat.shiftLeft_eq]at h1;generalize c<<<m=M at*;rw[Xm M (by omega)];exact ZL _ _ (by omega) (by omega)
theorem rv{w:World}{g at_:Nat}{b:Bk}(h:yJ w g b at_)(size:Nat)(h1:1<=size)(h2:size<=7)(hl:at_+size<=60):
  Calls Tryz.prog 199 #[.pointer (some ⟨g,0,none⟩),.int .i64 (size:Int)] w fun e w'=>e=.returned (.int .i64 ((numB ((b.drop at_).take size):Nat):Int))/\yJ w' g b (at_+size)/\Upd (fun j=>j=g) w w':=by
 have c64:=h.c64;have c65:=h.c65;have z65:=h.fz 65;have H:=qqh h;have HL:=Y3 h1 h2 hl;have hat:=h.2.1;clear h;go_enter Tryz.func199,Tryz.ntmps199
 go_wp2_with fail
 rw[show(60:Int)-(at_:Int)=((60-at_:Nat):Int) by omega];refine(Tc 0 size (60-at_) h1 h2 (Nat.pow_pos (by omega)) (by omega) (by omega) _).mono ?_;rintro e w' ⟨rfl,rfl⟩;go_wp2
 have h':=H.o.set65;have hU:Upd (fun j=>j=g) w' (w'.setCell ⟨g,65,none⟩ (.int .i64 0)):=zi _ _ _ _;generalize (w'.setCell ⟨g,65,none⟩ (.int .i64 0))=w1 at*;have H1:=Y2 h' hU;clear h' hU c64 c65 z65;go_loopw[5,32] (fun s5 s32 wr=>∃k:Nat,k<=size/\s32=.int .i64 k/\s5=.int .i64 ((numB ((b.drop at_).take k):Nat):Int)/\yJ wr g b at_/\Upd (fun j=>j=g) w' wr) (fun _ s32 _=>size-(intOf s32).toNat)
 case atStart=>exact⟨0,qYf _,rfl,by simp[numB],H1.o.1,H1.o.2⟩
 case round=>
  obtain⟨k,hk,rfl,rfl,hr,hu⟩:=hrel;have c64:=hr.c64;by_cases hlt:k<size
  .have hbl:b.length=64:=hr.1;have hi:at_+k<b.length:=by omega
   have cb:=hr.byte hi;have e1:IntKind.i64.wrap ((at_:Int)+(k:Int))=(at_:Int)+(k:Int):=qxv _ (by omega);have e2:((at_:Int)+(k:Int)).toNat=at_+k:=by omega
   have e3:IntKind.i64.wrap (8*(k:Int))=8*(k:Int):=qxv _ (by omega);have b1:(0:Int)<=(at_:Int)+(k:Int)/\(at_:Int)+(k:Int)<64:=by omega
   obtain⟨b1,b2⟩:=b1;have hts:(b.drop at_).take (k+1)=(b.drop at_).take k++[b[at_+k]]:=by
    rw[qXq (by simp;omega)];simp
   have hln:((b.drop at_).take k).length=k:=by simp;omega
   obtain⟨n1,n2,n3⟩:=Vy ((b.drop at_).take k) b[at_+k];rw[hln]at n1 n2 n3;have hbt:b[at_+k].toNat<256:=b[at_+k].toNat_lt;have HH:=Y5 hr hu hts n1 n3;clear hr hu hts hln n1 n2 n3 hbl;generalize b[at_+k].toNat=by1 at*;go_wp2
   go_quiet(fail)
   clear e1 e2 e3 b1 b2;have hpw:(2:Nat)^(8*k)<=281474976710656:=qXx (Nat.pow_le_pow_right (by decide) (show 8*k<=48 by omega)) (by decide);have hv:bits .or .i64 ((numB ((b.drop at_).take k):Nat):Int) (wrap64 ((by1:Int)*2^(8*k)))=((numB ((b.drop at_).take (k+1)):Nat):Int):=by
    obtain⟨-,-,hts,n1,n3⟩:=HH.o;rw[hts,n1];exact JF _ _ _ (qXy n3 hpw) (by omega) hpw
   rw[hv];have hr2:=HH.o.1.keep ((uur (fun _=>False) wr).drewN nq) (fun h=>h);have hu2:Upd (fun j=>j=g) w' (wr.drewN nq):=HH.o.2.1.drewN nq;have HZ:=Y2 hr2 hu2;clear hr2 hu2 hv hpw;generalize wr.drewN nq=wz at*;go_wp2
   go_roundw
   case rel=>exact⟨k+1,by omega,by go_num,rfl,HZ.o.1,HZ.o.2⟩
   case measure=>simp[intOf];omega
  .obtain rfl:k=size:=by omega
   have z64:=hr.fz 64;have h9:=hr.set64 (n:=at_+k) (by omega);rw[show((at_+k:Nat):Int)=(at_:Int)+(k:Int)from rfl]at h9;have HH:=Y2 h9 hu;clear hr hu h9;go_wp2
   go_ret
   exact⟨rfl,HH.o.1,HH.o.2.trans (zi _ _ _ _)⟩
theorem Wt:Tryz.zeroCells396.size=66:=by kernel_rfl
theorem ZR:Tryz.zeroCells396[64]?=some (.int .i64 0)/\Tryz.zeroCells396[65]?=some (.int .i64 0):=by constructor<;>kernel_rfl
theorem Te(x:Bk)(hx:x.length=64):List.foldl (fun(cs:Array Value) (x:Value×Nat)=>cs.setIfInBounds x.2 x.1) Tryz.zeroCells396 (bkC x).zipIdx=(bkC x++[Value.int .i64 0,Value.int .i64 0]).toArray:=by
 have hb:(bkC x).length=64:=by rw[zo,hx]
 obtain⟨f1,f2⟩:=Go.Great.foldl_set 0 (bkC x) 0 Tryz.zeroCells396;simp only[qYe]at f2;apply qxd
 intro k;have e:(bkC x++[Value.int .i64 0,Value.int .i64 0]).toArray[k]?=(bkC x++[Value.int .i64 0,Value.int .i64 0])[k]?:=qyv;rw[f2 k,Wt,e];by_cases hk:k<64
 .rw [if_pos ⟨by omega,by omega,by omega⟩,qyi (by omega)];rfl
 .rw [if_neg (by omega),qyj (by omega),hb];by_cases h4:k=64
  .subst h4;exact ZR.1
  .by_cases h5:k=65
   .subst h5;exact ZR.2
   .rw [qxf (by rw[Wt];omega),qyo (by simp;omega)]
theorem Tf{w:World}(b:Bk)(hb:b.length=64):
  Calls Tryz.prog 198 #[.agg (bkC b).toArray] w fun e w'=>∃g,e=.returned (.pointer (some ⟨g,0,none⟩))/\yJ w' g b 0/\w.heap.size<=g/\Below w.heap.size w w':=by
 have hr:=zg (zc w (.cells (bkC b).toArray 54) rfl);have Hb:=qqh hb;have hbu:=Te b hb;have hlx:(bkC b).length=64:=by rw[zo,hb]
 clear hb;go_enter Tryz.func198,Tryz.ntmps198
 go_wp2_with (first
  |(refine qZg rfl _ _ rfl _ _ rfl _ _ hr Tryz.underlying54 rfl (zt _ Hb.out) ?_)
  |fail)
 go_ret
 exact⟨w.heap.size+1,rfl,⟨Hb.out,by omega,zc _ _ (by simp)⟩,by omega,((qxl _ w).alloc (qXv _) _).alloc (by simp) _⟩
def endB(b:Bk)(at_:Nat):Bool:=((b.drop at_).take (60-at_)).all (·==0)
def endC(b:Bk)(at_:Nat):Int:=if endB b at_=true then 0 else 12
theorem JG{w:World}{g at_:Nat}{b:Bk}(h:yJ w g b at_):
  Calls Tryz.prog 200 #[.pointer (some ⟨g,0,none⟩)] w fun e w'=>e=.returned (.int .i64 (endC b at_))/\Below w.heap.size w w':=by
 have c64:=h.c64;have c65:=h.c65;have hat:=h.2.1;have hbl:=qqh h.1;have H:=qqh h;clear h;have b1:(0:Int)<=(at_:Int)/\(at_:Int)<=60:=by omega
 obtain⟨b1,b2⟩:=b1;have e3:IntKind.i64.wrap (60-(at_:Int))=60-(at_:Int):=qxv _ (by omega);go_enter Tryz.func200,Tryz.ntmps200
 go_wp2
 go_quiet(fail)
 go_wp2
 have hr:=H.o.keep ((uur (fun _=>False) w).drewN nq) (fun h=>h);have HB:Hid (Below w.heap.size w (w.drewN nq)):=zS (qxl _ w) nq;clear c64 c65 e3;generalize w.drewN nq=w1 at*
 go_loop [25] (fun s25=>∃k:Nat,k<=60-at_/\s25=.int .i64 k/\((b.drop at_).take k).all (·==0)=true) (fun s25=>60-at_-(intOf s25).toNat)
 case atStart=>exact⟨0,qYf _,rfl,by simp⟩
 case round=>
  obtain⟨k,hk,rfl,ha⟩:=hrel;have HA:=qqh ha;clear ha;by_cases hlt:k<60-at_
  .have hi:at_+k<b.length:=by rw[hbl.out];omega
   have cb:=hr.byte hi;have hts:Hid ((b.drop at_).take (k+1)=(b.drop at_).take k++[b[at_+k]]):=by
    show _=_;rw[qXq (by simp;have:=hbl.out;omega)];simp
   have b3:(0:Int)<=(k:Int)/\(k:Int)<((60-at_:Nat):Int):=by omega
   have b4:(k:Int)<((64-at_:Nat):Int):=by omega
   obtain⟨b3,b3'⟩:=b3;by_cases hz:b[at_+k]=0
   .have hq:(((b[at_+k].toNat:Nat):Int)==0)=true:=by rw[hz];rfl
    have hq2:(((b[at_+k].toNat:Nat):Int) !=0)=false:=by rw[hz];rfl
    have HZ:=qqh hz;clear hz;generalize b[at_+k].toNat=by1 at*;go_wp2
    go_round
    case rel=>exact⟨k+1,by omega,by go_num,by rw[hts.out,List.all_append,HA.o,HZ.o];rfl⟩
    case measure=>simp[intOf];omega
   .have hq:(((b[at_+k].toNat:Nat):Int)==0)=false:=by
     rw[qYv];intro e;exact hz (UInt8.toNat_inj.1 (by have:(0:UInt8).toNat=0:=rfl;omega))
    have hq2:(((b[at_+k].toNat:Nat):Int) !=0)=true:=by simp[bne,hq]
    have hend:Hid (endC b at_=12):=by
     show _=_;unfold endC;rw[if_neg];intro e;unfold endB at e;rw[qxw]at e;have hm:b[at_+k]∈(b.drop at_).take (60-at_):=by
      have h1:b[at_+k]∈(b.drop at_).take (k+1):=by rw[hts.out];simp
      exact(List.take_subset_take_left _ (by omega)) h1
     exact hz (by simpa using e _ hm)
    clear hz;generalize b[at_+k].toNat=by1 at*;go_wp2
    go_ret
    exact⟨by rw[hend.out];rfl,HB.o⟩
  .obtain rfl:k=60-at_:=by omega
   have hend:Hid (endC b at_=0):=if_pos HA.o;go_wp2
   go_ret
   exact⟨by rw[hend.out];rfl,HB.o⟩
def bndC(B:List (Int×Int)):List Value:=B.flatMap fun p=>[.int .i64 p.1,.int .i64 p.2]
theorem Wu{B:List (Int×Int)}{i:Nat}(hi:i<B.length):(bndC B)[i*2]?=some (.int .i64 B[i].1)/\(bndC B)[i*2+1]?=some (.int .i64 B[i].2):=by
 induction B generalizing i with
 |nil=>simp at hi
 |cons p B ih=>
  cases i with
  |zero=>exact⟨rfl,rfl⟩
  |succ i=>
   have:=ih (i:=i) (by simpa using hi);rw[show(i+1)*2=i*2+2 by omega];exact this
def inB(p:Int×Int)(x:Int):Bool:=decide (p.1<=x)&&decide (x<=p.2)
def withinB(B:List (Int×Int))(xs:List Int):Bool:=(B.zip xs).all fun q=>inB q.1 q.2
def Bnd(w:World)(v:Value)(B:List (Int×Int)):Prop:=
 ∃g h c,v=.func (.func 196) #[] #[.pointer (some ⟨g,0,none⟩)]/\w.cell? ⟨g,0,none⟩=some (.slice (some ⟨h,0,none⟩) B.length c)/\w.rangeAt h 0 (bndC B)
theorem Bnd.below{w w':World}{v:Value}{B:List (Int×Int)}(h:Bnd w v B)(hb:Below w.heap.size w w'):Bnd w' v B:=by
 obtain⟨g,k,c,hv,hc,hr⟩:=h;exact⟨g,k,c,hv,(uuo (S:=fun _=>False) hb).cellv hc (fun h=>h),Below.range hb hr⟩
theorem yS{w:World}{g o:Nat}{xs:List Int}(h:w.rangeAt g o (ints xs)){i:Nat}(hi:i<xs.length):w.cell? ⟨g,o+i,none⟩=some (.int .i64 xs[i]):=h i _ (yp hi)
theorem vP{α:Type}{l:List α}{p:α->Bool}{k:Nat}(hk:k<l.length)(h:p l[k]=false):l.all p=false:=by
 rw[<-Bool.not_eq_true];intro e;rw[qxw]at e;have:=e _ (qyz hk);rw[h]at this;cases this
theorem wM{w:World}{h n c:Nat}:Calls Tryz.prog 126 #[.slice (some ⟨h,0,none⟩) n c] w fun e w'=>e=.returned (.func (.func 196) #[] #[.pointer (some ⟨w.heap.size,0,none⟩)])/\w'=w.alloc (.cells #[.slice (some ⟨h,0,none⟩) n c] 321):=by
 have hmf:=qqf;go_enter Tryz.func126,Tryz.ntmps126
 go_wp2
 go_ret
 exact⟨rfl,rfl⟩
theorem Bnd.made{w:World}{h c:Nat}{B:List (Int×Int)}(hr:w.rangeAt h 0 (bndC B)):Bnd (w.alloc (.cells #[.slice (some ⟨h,0,none⟩) B.length c] 321)) (.func (.func 196) #[] #[.pointer (some ⟨w.heap.size,0,none⟩)]) B:=
 ⟨w.heap.size,h,c,rfl,za (zc w _ rfl) 0,qYp hr _⟩
theorem yT{w:World}{g h c gl ol m cl:Nat}(B:List (Int×Int))(xs:List Int)(hc:w.cell? ⟨g,0,none⟩=some (.slice (some ⟨h,0,none⟩) B.length c))(hr:w.rangeAt h 0 (bndC B))(hx:w.rangeAt gl ol (ints xs))(hm:xs.length=m)(hB:B.length<=m)(hm2:m<=100):
  Calls Tryz.prog 196 #[.slice (some ⟨gl,ol,none⟩) m cl,.pointer (some ⟨g,0,none⟩)] w fun e w'=>e=.returned (.bool (withinB B xs))/\Below w.heap.size w w':=by
 have H:=Y3 hr hx hm;clear hr hx hm;go_enter Tryz.func196,Tryz.ntmps196
 go_wp2
 go_loopw[8] (fun s8 wr=>∃k:Nat,k<=B.length/\s8=.int .i64 k/\Below w.heap.size w wr/\((B.zip xs).take k).all (fun q=>inB q.1 q.2)=true) (fun s8 _=>B.length-(intOf s8).toNat)
 case atStart=>exact⟨0,qYf _,rfl,qxl _ _,by simp⟩
 case round=>
  obtain⟨k,hk,rfl,hb,ha⟩:=hrel;have HA:=Y2 ha hb;by_cases hlt:k<B.length
  .obtain ⟨hr,hx,hm⟩:=H.o;have hkx:k<xs.length:=by omega
   have r1:=(Below.range hb hr) (k*2) _ (Wu hlt).1;have r2:=(Below.range hb hr) (k*2+1) _ (Wu hlt).2;have rx:=yS (Below.range hb hx) hkx;rw[qYe]at r1 r2;have hts:Hid (((B.zip xs).take (k+1))=(B.zip xs).take k++[(B[k],xs[k])]):=by
    show _=_;rw[qXq (by rw[List.length_zip];omega),List.getElem_zip]
   obtain⟨lo,hi,hp⟩:∃lo hi,B[k]=(lo,hi):=⟨_,_,rfl⟩
   have HP:=qqh hp;rw[hp]at r1 r2;simp only at r1 r2;have b3:(0:Int)<=(k:Int)/\(k:Int)<(B.length:Int)/\(k:Int)<(m:Int):=by omega
   have hbl:wr.heap.size<=wr.heap.size:=qXv _;clear hp ha hr hx hm hb;obtain⟨b3,b4,b5⟩:=b3;obtain⟨x,hxk⟩:∃x,xs[k]=x:=⟨_,rfl⟩
   have HX:=qqh hxk;rw[hxk]at rx;have hglt:gl<wr.heap.size:=qYn wr _ rx;clear hxk;have hblw:Below w.heap.size w (wr.alloc (.cells #[.int .i64 lo,.int .i64 hi] 219)):=HA.o.2.alloc HA.o.2.size _;by_cases h1:x<lo
   .have hin:Hid (withinB B xs=false):=by
     show _=_;refine vP (k:=k) (by rw[List.length_zip];omega) ?_;rw[List.getElem_zip,HP.o,HX.o];simp[inB];omega
    have q1:decide (x<lo)=true:=by simpa using h1
    clear h1;have HB:=qqh hblw;clear hblw;go_wp2
    go_quiet(fail)
    go_wp2
    go_ret
    exact⟨by rw[hin.out];rfl,zS HB.o _⟩
   .by_cases h2:hi<x
    .have hin:Hid (withinB B xs=false):=by
      show _=_;refine vP (k:=k) (by rw[List.length_zip];omega) ?_;rw[List.getElem_zip,HP.o,HX.o];simp[inB];omega
     have q1:decide (x<lo)=false:=by simpa using h1
     have q2:decide (hi<x)=true:=by simpa using h2
     clear h1 h2;have HB:=qqh hblw;clear hblw;go_wp2
     go_quiet(fail)
     go_wp2
     go_ret
     exact⟨by rw[hin.out];rfl,zS HB.o _⟩
    .have hin:Hid (inB (B[k],xs[k]).1 (B[k],xs[k]).2=true):=by
      show _=_;rw[HP.o,HX.o];simp[inB];omega
     have q1:decide (x<lo)=false:=by simpa using h1
     have q2:decide (hi<x)=false:=by simpa using h2
     clear h1 h2;have HB:=qqh hblw;clear hblw;go_wp2
     go_quiet(fail)
     go_wp2
     go_roundw
     case rel=>exact⟨k+1,by omega,by go_num,zS HB.o _,by rw[hts.out,List.all_append,HA.o.1];simpa using hin.out⟩
     case measure=>simp[intOf];omega
  .obtain rfl:k=B.length:=by omega
   have hin:Hid (withinB B xs=true):=by
    have:=HA.o.1;rw[qXp (by rw[List.length_zip];omega)]at this;exact this
   go_wp2
   go_ret
   exact⟨by rw[hin.out];rfl,HA.o.2⟩
theorem sQ:(Tryz.prog.info? 154).map (·.size)=some 4:=by kernel_rfl
theorem ZS(w:World)(A B C D E:Obj):let W:=((((w.alloc A).alloc B).alloc C).alloc D).alloc E
  W.heap[w.heap.size]?=some A/\W.heap[w.heap.size+1]?=some B/\W.heap[w.heap.size+1+1]?=some C/\W.heap[w.heap.size+1+1+1]?=some D/\W.heap[w.heap.size+1+1+1+1]?=some E/\W.heap.size=w.heap.size+5/\Upd (fun _=>False) w W:=by
 obtain⟨h1,h2,h3,h4,h5,h6⟩:=xw w A B C D;refine⟨?_,?_,?_,?_,zc _ _ (by simp),by simp,h6.alloc _⟩
 .rw [qxk _ _ _ (zd h1)];exact h1
 .rw [qxk _ _ _ (zd h2)];exact h2
 .rw [qxk _ _ _ (zd h3)];exact h3
 .rw [qxk _ _ _ (zd h4)];exact h4
def encB(l:List (Nat×Nat)):List UInt8:=l.flatMap fun p=>lowB p.1 p.2
theorem ut(l:List (Nat×Nat))(p:Nat×Nat):encB (l++[p])=encB l++lowB p.1 p.2:=by simp[encB]
def sizes(l:List (Nat×Nat)):Nat:=(l.map (·.2)).sum
theorem xQ(l:List (Nat×Nat)):(encB l).length=sizes l:=by
 induction l with
 |nil=>rfl
 |cons p l ih=>simp only[encB,sizes,qyg,qzd,zU,qzm,List.sum_cons]at ih⊢;rw[ih]
theorem vq(l:List (Nat×Nat)){i:Nat}(hi:i<l.length):sizes (l.take i)+l[i].2<=sizes l:=by
 have h:=congrArg sizes (qXo (i+1) l);rw[qXq hi]at h;simp only[sizes,qzl,List.sum_append,qzm,qzo,List.sum_cons,List.sum_nil]at h⊢;omega
def sR(l:List (Nat×Nat)):Prop:=(∀p∈l,p.1<256^p.2/\1<=p.2/\p.2<=7)/\sizes l<=59
def numsL(l:List (Nat×Nat)):List Int:=l.map fun p=>(p.1:Int)
def wy(l:List (Nat×Nat)):List Int:=l.map fun p=>(p.2:Int)
theorem xl{l:List (Nat×Nat)}{i:Nat}(h:i<l.length):(ints (numsL l))[i]?=some (.int .i64 (l[i].1:Int)):=by
 rw[yp (by simpa[numsL]using h)];simp[numsL]
theorem yU{l:List (Nat×Nat)}{i:Nat}(h:i<l.length):(ints (wy l))[i]?=some (.int .i64 (l[i].2:Int)):=by
 rw[yp (by simpa[wy]using h)];simp[wy]
def sectB(k:Nat)(l:List (Nat×Nat)):Bk:=sealB (padB (lowB k 1++encB l))
theorem vQ{k:Nat}{l:List (Nat×Nat)}(h:sizes l<=59):(padB (lowB k 1++encB l)).length=64:=ww (by simp[zU,xQ];omega)
theorem xo{k:Nat}{l:List (Nat×Nat)}(h:sizes l<=59):(sectB k l).length=64:=wL (vQ h)
theorem yG(w:World)(A B C:Obj):let W:=((w.alloc A).alloc B).alloc C
  W.heap[w.heap.size]?=some A/\W.heap[w.heap.size+1]?=some B/\W.heap[w.heap.size+1+1]?=some C/\W.heap.size=w.heap.size+3/\Upd (fun _=>False) w W:=by
 refine⟨?_,?_,zc _ _ (by simp),by simp,(((uur _ w).alloc _).alloc _).alloc _⟩
 .rw [qxk _ _ _ (by simp<;>omega),qxk _ _ _ (by simp)];exact zc w _ rfl
 .rw [qxk _ _ _ (by simp)];exact zc _ _ (by simp)
end Go.Proofs.YtfhfbpmlnjdfoaaGreatDoor
