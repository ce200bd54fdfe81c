/- The sum of byt -/
import Derived.Test.YtfhfbpmlnjdfoaaGreatDoorG05
set_option maxRecDepth 100000
set_option maxHeartbeats 1000000
namespace Go.Proofs.YtfhfbpmlnjdfoaaGreatDoor
open Go Go.RowKit Tryz
structure Nib(w:World):Prop where
 c:∀i,i<16->w.cell? ⟨0,i,none⟩=some (.int .i64 (nibC i))
theorem Nib.lt{w:World}(h:Nib w):0<w.heap.size:=(zK (h.c 0 (by decide))).2
theorem Nib.keep{w w':World}(h:Nib w){S:Nat->Prop}(hu:Upd S w w')(hs:¬S 0):Nib w':=⟨fun i hi=>(hu.cellAt h.lt hs).trans (h.c i hi)⟩
theorem Nib.below{w w':World}(h:Nib w)(hb:Below w.heap.size w w'):Nib w':=h.keep (uuo (S:=fun _=>False) hb) (fun h=>h)
theorem Yw{w:World}{g:Nat}(s f:Nat)(hs:s<4294967296)(hf:f<256)(hN:Nib w)(hc:w.cell? ⟨g,0,none⟩=some (.int .i64 (s:Int)))(hz:w.frozen? ⟨g,0,none⟩=false):
  Calls prog 262 #[.int .i64 (f:Int),.pointer (some ⟨g,0,none⟩)] w fun e w'=>e=.returned (.int .i64 (stepC s f:Nat))/\
   w'.cell? ⟨g,0,none⟩=some (.int .i64 (stepC s f:Nat))/\w'.frozen? ⟨g,0,none⟩=false/\Upd (fun j=>j=g) w w':=by
 have hx:=wi s f (by omega) (by omega);have hxl:s^^^f<4294967296:=Nat.xor_lt_two_pow (n:=32) (by omega) (by omega);have ha:bits .and .i64 ((s^^^f:Nat):Int) 15=(((s^^^f)&&&15:Nat):Int):=ub (s^^^f) 15 (by omega) (by omega);have hal:(s^^^f)&&&15<16:=Nat.and_lt_two_pow (n:=4) _ (by omega);have hcell:=hN.c _ hal;have hst:bits .xor .i64 ((s:Int)/16) ((nibC ((s^^^f)&&&15):Nat):Int)=((s/16^^^nibC ((s^^^f)&&&15):Nat):Int):=wi (s/16) (nibC ((s^^^f)&&&15)) (by omega) (by have:=Vi ((s^^^f)&&&15);omega);have hfin:Hid (stepC s f=s/16^^^nibC ((s^^^f)&&&15)):=rfl;generalize (s^^^f)&&&15=m at*;clear hN;go_enter func262,ntmps262
 go_wp2
 go_region
 rw[<-hfin.out];have hU:Hid (Upd (fun j=>j=g) w (w.setCell ⟨g,0,none⟩ (.int .i64 (stepC s f:Nat))).drew):=(zj _ _ _ _).drew;have hcc:(w.setCell ⟨g,0,none⟩ (.int .i64 (stepC s f:Nat))).drew.cell? ⟨g,0,none⟩=some (.int .i64 (stepC s f:Nat)):=by
  rw[qYo,World.cell?_setCell_same _ _ _ hc]
 have hff:(w.setCell ⟨g,0,none⟩ (.int .i64 (stepC s f:Nat))).drew.frozen? ⟨g,0,none⟩=false:=by simpa using hz
 have HF:=Y2 hcc hff;clear hff hst hx ha;generalize (w.setCell ⟨g,0,none⟩ (.int .i64 (stepC s f:Nat))).drew=w2 at*;go_wp2
 go_ret
 exact⟨rfl,HF.o.1,HF.o.2,hU.out⟩
theorem Yx{w:World}(s:Nat):
  Calls prog 180 #[.int .i64 (s:Int)] w fun e w'=>e=.returned (.func (.func 262) #[] #[.pointer (some ⟨w.heap.size,0,none⟩)])/\w'=w.alloc (.cells #[.int .i64 (s:Int)] 3):=by
 have hmf:=qqf;go_enter func180,ntmps180
 go_wp2
 go_ret
 exact⟨rfl,rfl⟩
theorem uc{w:World}{gl g o n cl cp:Nat}(xs:List UInt8)(hN:Nib w)(hl:w.cell? ⟨gl,0,none⟩=some (.slice (some ⟨g,o,none⟩) n cp))(hx:w.rangeAt g o (bkC xs))(hxl:xs.length=n)(hn:1<=n)(hn2:n<=1000):
  Calls prog 114 #[.slice (some ⟨gl,0,none⟩) 1 cl] w fun e w'=>e=.returned (.int .i64 (crcC xs:Nat))/\Below w.heap.size w w':=by
 have hu:Upd (fun _=>False) w (w.alloc (.cells #[.int .i64 ((4294967295:Nat):Int)] 3)):=(uur _ w).alloc _;have hc:=za (zc w (.cells #[.int .i64 ((4294967295:Nat):Int)] 3) rfl) 0;have hz:=zg (zc w (.cells #[.int .i64 ((4294967295:Nat):Int)] 3) rfl) 0;have hg:g<w.heap.size:=by have:=qYn w _ (hx 0 _ (by rw[qyn (by rw[zn];omega)]));exact this
 have hgl:gl<w.heap.size:=qYn w _ hl;have H:=Y9 hN hl hx hxl hu hc hz hg hgl;clear hN hl hx hxl hu hc hz hg hgl;go_enter func114,ntmps114
 go_wp2
 go_step3
 go_wp2_with fail
 refine(Yx 4294967295).mono ?_;rintro e w1 ⟨rfl,rfl⟩;go_wp2
 go_step3
 go_wp2
 generalize hw1:w.alloc (.cells #[.int .i64 ((4294967295:Nat):Int)] 3)=w1 at*;have HW:Hid (w1=w.alloc (.cells #[.int .i64 ((4294967295:Nat):Int)] 3)):=hw1.symm;clear hw1;go_loopw[3,13] (fun s3 s13 wr=>(s13=.int .i64 0/\s3=.int .i64 4294967295/\wr.cell? ⟨w.heap.size,0,none⟩=some (.int .i64 4294967295)/\wr.frozen? ⟨w.heap.size,0,none⟩=false/\Upd (fun j=>j=w.heap.size) w1 wr)\/
   (s13=.int .i64 1/\s3=.int .i64 (sumC xs:Nat)/\Upd (fun j=>j=w.heap.size) w1 wr)) (fun _ s13 _=>(1-intOf s13).toNat)
 case atStart=>obtain⟨hN,hl,hx,hxl,hu,hc,hz,hg,hgl⟩:=H.o;exact .inl ⟨rfl,rfl,hc,hz,uur _ _⟩
 case round=>
  obtain⟨wb,rfl⟩:∃wb:World,wb=wr:=⟨_,rfl⟩
  rcases hrel with⟨rfl,rfl,hc,hz,hu⟩|⟨rfl,rfl,hu⟩
  .obtain ⟨hN,hl,hx,hxl,hu0,-,-,hg,hgl⟩:=H.o;have hU:Upd (fun j=>j=w.heap.size) w wb:=(hu0.mono (fun _ _ h=>h.elim)).trans hu;have hN':=hN.keep hU (by have:=hN.lt;omega);have hl':=hU.ja hl (by omega);have hx':=hU.range hx (by omega);have HH:=Y7 hN' hx' hu hxl hg hc hz;clear hN hl hx hxl hu0 hg hgl hU hN' hx' hu hc hz;have hn0:((n:Int)==0)=false:=by rw[qYv];omega
   go_wp2
   clear hn0;go_loopw[3,22] (fun s3 s22 wr=>∃k:Nat,k<=n/\s22=.int .i64 k/\s3=.int .i64 ((sumC (xs.take k):Nat):Int)/\wr.cell? ⟨w.heap.size,0,none⟩=some (.int .i64 ((sumC (xs.take k):Nat):Int))/\wr.frozen? ⟨w.heap.size,0,none⟩=false/\Upd (fun j=>j=w.heap.size) wb wr) (fun _ s22 _=>n-(intOf s22).toNat)
   case atStart=>exact⟨0,qYf _,rfl,rfl,HH.o.2.2.2.2.2.1,HH.o.2.2.2.2.2.2,uur _ _⟩
   case round=>
    obtain⟨k,hk,rfl,rfl,hc,hz,hu2⟩:=hrel;obtain⟨hN,hx,hu,hxl,hg,-,-⟩:=HH.o;have hbl:(bkC xs).length=n:=by rw[zn,hxl]
    by_cases hlt:k<n
    .have hkx:k<xs.length:=by omega
     have hck:wr.cell? ⟨g,o+k,none⟩=some (.int .u8 ((xs[k].toNat:Nat):Int)):=
      hu2.ja (hx k _ (by simp only[bkC,qyq,qyn hkx,Option.map_some];rfl)) (by omega)
     have hN2:=hN.keep hu2 (by have:=(H.o.1).lt;omega);have hbt:xs[k].toNat<256:=xs[k].toNat_lt;have ha:bits .and .i64 ((xs[k].toNat:Nat):Int) 15=((xs[k].toNat&&&15:Nat):Int):=ub xs[k].toNat 15 (by omega) (by omega);have hal:xs[k].toNat&&&15<16:=Nat.and_lt_two_pow (n:=4) _ (by omega);have hsl:=Zn (xs.take k);have hts:Hid (sumC (xs.take (k+1))=stepC (stepC (sumC (xs.take k)) (xs[k].toNat&&&15)) (xs[k].toNat/16)):=by
      show _=_;rw[qXq hkx,Uq];rfl
     have HX:=Y7 hN2 hu2 hc hz hal hsl hxl;clear hN hx hu hxl hg hc hz hu2 hN2 hbl;go_wp2_with fail
     generalize xs[k].toNat=by1 at*;refine(Yw (sumC (xs.take k)) (by1&&&15) hsl (by omega) HX.o.1 HX.o.2.2.1 HX.o.2.2.2.1).mono ?_;rintro e w2 ⟨rfl,hc2,hz2,hu3⟩;have hN2:=HX.o.1.keep hu3 (by have:=(H.o.1).lt;omega);have hs2:stepC (sumC (xs.take k)) (by1&&&15)<4294967296:=qA hsl;have HY:=Y5 hN2 hu3 hc2 hz2 hs2;clear hN2 hu3 hc2 hz2 hs2;go_wp2_with fail
     rw[show((by1:Int)/16)=((by1/16:Nat):Int)from rfl];refine(Yw _ (by1/16) HY.o.2.2.2.2 (by omega) HY.o.1 HY.o.2.2.1 HY.o.2.2.2.1).mono ?_;rintro e w3 ⟨rfl,hc3,hz3,hu4⟩;rw[<-hts.out];rw[<-hts.out]at hc3;have HZ:=Y3 hu4 hc3 hz3;clear hu4 hc3 hz3;go_wp2
     go_roundw
     case rel=>exact⟨k+1,by omega,by go_num,rfl,HZ.o.2.1,HZ.o.2.2,(HX.o.2.1.trans HY.o.2.1).trans HZ.o.1⟩
     case measure=>simp[intOf];omega
    .obtain rfl:k=n:=by omega
     have HF:Hid (xs.take k=xs):=by show _=_;rw[qXp (by omega)]
     have HG:=Y2 hu hu2;clear hu hu2 hN hx hxl hc hz hbl;go_wp2
     go_roundw
     case rel=>exact .inr ⟨rfl,by rw[HF.o],HG.o.1.trans HG.o.2⟩
     case measure=>simp[intOf]
  .have hfx:bits .xor .i64 ((sumC xs:Nat):Int) 4294967295=((crcC xs:Nat):Int):=wi (sumC xs) 4294967295 (by have:=Zn xs;omega) (by omega);go_wp2
   try rw[qxr]
   go_ret
   obtain⟨hN,hl,hx,hxl,hu0,-,-,hg,hgl⟩:=H.o;exact⟨rfl,zl (Upd.below hu0) hu (qXv _) (fun k e=>by omega)⟩
def byV(n i:Nat):Value:=.int .u8 (((UInt8.ofNat (n/256^i)).toNat:Nat):Int)
theorem EY(n k:Nat):Value.int .u8 ((n:Int)/2^(8*k)%256)=byV n k:=by
 unfold byV;have h1:(UInt8.ofNat (n/256^k)).toNat=n/256^k%256:=by simp
 have h2:(256:Nat)^k=2^(8*k):=by rw[Nat.pow_mul]
 rw[h1,h2,Int.natCast_emod,Int.natCast_ediv,Int.natCast_pow];rfl
theorem Vk{w:World}(n size:Nat)(_hn:n<72057594037927936)(hs:size<=7)(fd:Nat)(caps:Array Value)(hent:∀args w,(callFunc fd args).run prog w=.ok (.enter fd args) w)
  (J:Nat->World->Prop) (h0:J 0 w) (hput:∀i,i<size->∀w,J i w->Calls prog fd (#[byV n i]++caps) w fun e w'=>e=.returned (.tuple #[])/\J (i+1) w'):
  Calls prog 194 #[.int .i64 (n:Int),.int .i64 (size:Int),.func (.func fd) #[] caps] w fun e w'=>e=.returned (.tuple #[])/\J size w':=by
 have H:=Y2 h0 hput;clear h0 hput;go_enter func194,ntmps194
 go_wp2
 go_step3
 go_wp2
 go_step3
 go_wp2
 go_loopw[6] (fun i wr=>∃k:Nat,k<=size/\i=.int .i64 k/\J k wr) (fun i _=>size-(intOf i).toNat)
 case atStart=>exact⟨0,qYf _,rfl,H.o.1⟩
 case round=>
  obtain⟨k,hk,rfl,hJ⟩:=hrel;have HJ:=qqh hJ;clear hJ;by_cases hlt:k<size
  .have hq:((k:Int)==(size:Int))=false:=by rw[qYv];omega
   go_wp2_with fail
   rw[EY];refine(H.o.2 k hlt wr HJ.o).mono ?_;rintro e w2 ⟨rfl,hJ2⟩;have HJ2:=qqh hJ2;clear hJ2;go_wp2
   go_roundw
   case rel=>exact⟨k+1,by omega,by go_num,HJ2.o⟩
   case measure=>simp[intOf];omega
  .obtain rfl:k=size:=by omega
   go_wp2
   try rw[Exit.noGoto_normal]
   go_end0
   exact⟨rfl,HJ.o⟩
theorem Qb(n size left:Nat)(h1:1<=size)(h2:size<=7)(hn:n<256^size)(hl:size<=left)(_hl2:left<=60)(w:World):
  Calls prog 192 #[.int .i64 (n:Int),.int .i64 (size:Int),.int .i64 (left:Int)] w fun e w'=>e=.returned (.int .i64 0)/\w'=w:=by
 have hsh:Hid ((n:Int)/2^(8*size)=0):=by
  show _=_;have e:(256:Nat)^size=2^(8*size):=by rw[Nat.pow_mul]
  rw[e]at hn;have:((n/2^(8*size):Nat):Int)=0:=by rw[Nat.div_eq_of_lt hn];rfl
  rw[Int.natCast_ediv,Int.natCast_pow]at this;exact this
 have hn2:n<72057594037927936:=qXy hn (Nat.pow_le_pow_right (n:=256) (by omega) h2);clear hn;have q1:decide ((size:Int)<1)=false:=by simp;omega
 have q2:decide ((7:Int)<(size:Int))=false:=by simp;omega
 have q3:decide ((n:Int)<0)=false:=by simp
 have q4:=hsh.out;go_enter func192,ntmps192
 go_wp2
 go_ret
 exact⟨rfl,rfl⟩
def padB(bs:List UInt8):Bk:=bs++List.replicate (64-bs.length) 0
theorem wI{bs:List UInt8}(h:bs.length<=64):(padB bs).length=64:=by simp[padB];omega
theorem Ur{bs:List UInt8}(h:bs.length<64)(b:UInt8):padB (bs++[b])=(padB bs).set bs.length b:=by
 unfold padB;have e:64-bs.length=(64-(bs++[b]).length)+1:=by simp;omega
 rw[e,List.replicate_succ,qXj _ _ (qXv _)];simp
theorem sG(n i:Nat):lowB n (i+1)=lowB n i++[UInt8.ofNat (n/256^i)]:=by
 induction i generalizing n with
 |zero=>simp[lowB]
 |succ i ih=>
  have h1:=ih (n/256);show UInt8.ofNat n::lowB (n/256) (i+1)=(UInt8.ofNat n::lowB (n/256) i)++_;rw[h1,qya,Nat.div_div_eq_div_mul,Nat.pow_succ,Nat.mul_comm]
theorem Vl(x:Bk)(i:Nat)(b:UInt8):bkC (x.set i b)=(bkC x).set i (Go.Extern.Stop.cell b):=by simp[bkC,List.map_set]
def WrAt(w:World)(g:Nat)(bs:List UInt8):Prop:=
 bs.length<=60/\w.heap[g]?=some (.cells (bkC (padB bs)++[Value.int .i64 (bs.length:Int),Value.int .i64 0]).toArray 316 (0,0))
section
variable{w w':World}{g:Nat}{bs:List UInt8}
theorem WrAt.lt(h:WrAt w g bs):g<w.heap.size:=zf h.2
theorem WrAt.keep(h:WrAt w g bs){S:Nat->Prop}(hu:Upd S w w')(hs:¬S g):WrAt w' g bs:=⟨h.1,(hu.block g h.lt hs).trans h.2⟩
theorem WrAt.len(h:WrAt w g bs):(bkC (padB bs)).length=64:=by rw[zn,wI (by have:=h.1;omega)]
theorem WrAt.c64(h:WrAt w g bs):w.cell? ⟨g,64,none⟩=some (.int .i64 (bs.length:Int)):=by
 rw[za h.2,qyv,qyj (by rw[h.len];omega),h.len];rfl
theorem WrAt.c65(h:WrAt w g bs):w.cell? ⟨g,65,none⟩=some (.int .i64 0):=by
 rw[za h.2,qyv,qyj (by rw[h.len];omega),h.len];rfl
theorem WrAt.fz(h:WrAt w g bs)(i:Nat):w.frozen? ⟨g,i,none⟩=false:=zg h.2 i
theorem WrAt.range(h:WrAt w g bs):w.rangeAt g 0 (bkC (padB bs)):=fun j v hv=>by
 have hj:=(qyp.1 hv).1;rw[za h.2,qYe,qyv,qyi hj];exact hv
theorem WrAt.some(h:WrAt w g bs){i:Nat}(hi:i<66):∃v,w.cell? ⟨g,i,none⟩=some v:=by
 rw[za h.2,qyv];exact⟨_,qyn (by rw[qzd,h.len];exact hi)⟩
theorem WrAt.push(h:WrAt w g bs)(hl:bs.length<60)(b:UInt8)(hw:Upd (fun _=>False) (w.setCell ⟨g,bs.length,none⟩ (Go.Extern.Stop.cell b)) w'):
  WrAt (w'.setCell ⟨g,64,none⟩ (.int .i64 ((bs++[b]).length:Int))) g (bs++[b]):=by
 refine⟨by simp;omega,?_⟩;have h1:=zi h.2 bs.length (Go.Extern.Stop.cell b);have h2:=(hw.block g (zf h1) (fun h=>h)).trans h1;have h3:=zi h2 64 (.int .i64 ((bs++[b]).length:Int));rw[h3]
 congr 2
 rw[qXi,qXi,List.set_append_left _ _ (by rw[h.len];omega),<-Vl,<-Ur (by omega)];have hl2:(bkC (padB (bs++[b]))).length=64:=by rw[zn,wI (by simp;omega)]
 rw[qXj _ _ (by omega),hl2];rfl
end
theorem zaY{w:World}{g g0:Nat}{bs:List UInt8}(h:WrAt w g bs)(hl:bs.length<60)(b:UInt8)(hc:w.cell? ⟨g0,0,none⟩=some (.pointer (some ⟨g,0,none⟩)))(hne:¬g=g0):
  Calls prog 193 #[.int .u8 ((b.toNat:Nat):Int),.pointer (some ⟨g0,0,none⟩)] w fun e w'=>e=.returned (.tuple #[])/\WrAt w' g (bs++[b])/\Upd (fun j=>j=g) w w':=by
 have c64:=h.c64;obtain⟨v0,cb⟩:=h.some (i:=bs.length) (by omega);have hfz:=h.fz bs.length;have hfz2:=h.fz 64;have hU:Upd (fun j=>j=g) w ((w.setCell ⟨g,bs.length,none⟩ (.int .u8 ((b.toNat:Nat):Int))).drew.setCell ⟨g,64,none⟩ (.int .i64 ((bs.length:Int)+1))):=((zj _ _ _ _).drew).trans (zj _ _ _ _);have hP:WrAt ((w.setCell ⟨g,bs.length,none⟩ (.int .u8 ((b.toNat:Nat):Int))).drew.setCell ⟨g,64,none⟩ (.int .i64 ((bs.length:Int)+1))) g (bs++[b]):=by
  have:=h.push hl b ((uur (fun _=>False) _).drew);rw[qzd]at this;exact this
 have HP:=Y2 hP hU;have hb1:0<=(bs.length:Int)/\(bs.length:Int)<60:=⟨by omega,by omega⟩
 obtain⟨hb1,hb2⟩:=hb1;clear h hP hU;go_enter func193,ntmps193
 go_wp2
 go_region
 go_wp2
 go_end0
 exact⟨rfl,HP.o.1,HP.o.2⟩
theorem WrAt.set65{w:World}{g:Nat}{bs:List UInt8}(h:WrAt w g bs):WrAt (w.setCell ⟨g,65,none⟩ (.int .i64 0)) g bs:=by
 refine⟨h.1,?_⟩;rw[zi h.2 65 (.int .i64 0)]
 congr 2
 rw[qXi,qXj _ _ (by rw[h.len];omega),h.len];rfl
theorem rZ{w:World}{g o b o':Nat}{v u:Value}(h:w.cell? ⟨g,o,none⟩=some v)(hne:o'≠o):(w.setCell ⟨b,o',none⟩ u).cell? ⟨g,o,none⟩=some v:=by
 rw[World.cell?_setCell_other _ _ _ _ (fun e=>hne (congrArg Addr.off e)),h]
theorem EZ(w:World):Calls prog 122 #[] w fun e w'=>∃g,e=.returned (.pointer (some ⟨g,0,none⟩))/\WrAt w' g []/\w.heap.size<=g/\Below w.heap.size w w':=by
 go_enter func122,ntmps122
 go_wp2
 go_ret
 refine⟨w.heap.size,rfl,⟨by simp,zc w _ rfl⟩,qXv _,(qxl _ w).alloc (qXv _) _⟩
theorem zaZ{w:World}{g:Nat}{bs:List UInt8}(h:WrAt w g bs)(n size:Nat)(h1:1<=size)(h2:size<=7)(hn:n<256^size)(hl:bs.length+size<=60):
  Calls prog 123 #[.pointer (some ⟨g,0,none⟩),.int .i64 (n:Int),.int .i64 (size:Int)] w fun e w'=>e=.returned (.pointer (some ⟨g,0,none⟩))/\WrAt w' g (bs++lowB n size)/\Upd (fun j=>j=g) w w':=by
 have hmf:=qqf;have hua:Upd (fun _=>False) w (w.alloc (.cells #[.pointer (some ⟨g,0,none⟩)] 213)):=(uur _ _).alloc _;have h':=h.keep hua (fun h=>h);have c0:(w.alloc (.cells #[.pointer (some ⟨g,0,none⟩)] 213)).cell? ⟨w.heap.size,0,none⟩=some (.pointer (some ⟨g,0,none⟩)):=za (zc w _ rfl) 0;have c64:=h'.c64;have c65:=h'.c65;have z65:=h'.fz 65;have hgl:=h.lt;have hne:¬g=w.heap.size:=by omega
 have hne2:w.heap.size≠g:=by omega
 have H:=Y6 h' hua hn h2 hl h1;have hs1:(60:Int)-bs.length=((60-bs.length:Nat):Int):=by omega
 have hsw:IntKind.i64.wrap (60-(bs.length:Int))=((60-bs.length:Nat):Int):=by rw[hs1,qxv _ (by omega)]
 clear h' hua hn h h1 hs1;go_enter func123,ntmps123
 go_wp2
 generalize (w.alloc (.cells #[.pointer (some ⟨g,0,none⟩)] 213))=w1 at*;generalize w.heap.size=m at*
 go_region_held3 (fun W=>W.cell? ⟨m,0,none⟩=some (.pointer (some ⟨g,0,none⟩))/\W.cell? ⟨g,64,none⟩=some (.int .i64 (bs.length:Int)))
  ((go_split_ands;(simp only[qYo]at*);((repeat' constructor)<;>first|assumption|(refine zt ?_ ?_<;>assumption)|(refine rZ ?_ (by decide);assumption))))
  (first|(go_at_call 192;refine(Qb n size (60-bs.length) H.o.2.2.2.2.2 H.o.2.2.2.1 H.o.2.2.1 (by have:=H.o.2.2.2.2.1;omega) (by omega) _).mono ?_;rintro e w' ⟨rfl,rfl⟩))
 have hW2:WrAt (w1.setCell ⟨g,65,none⟩ (.int .i64 0)).drew g bs:=(H.o.1.set65).keep ((uur (fun _=>False) _).drew) (fun h=>h);have hU2:Hid (Upd (fun j=>j=g) w (w1.setCell ⟨g,65,none⟩ (.int .i64 0)).drew):=(H.o.2.1.mono (fun _ _ h=>h.elim)).trans ((zj _ _ _ _).drew);have c02:(w1.setCell ⟨g,65,none⟩ (.int .i64 0)).drew.cell? ⟨m,0,none⟩=some (.pointer (some ⟨g,0,none⟩)):=by
  rw[qYo];exact zt c0 hne
 rename_i hHeld
 clear hHeld;generalize (w1.setCell ⟨g,65,none⟩ (.int .i64 0)).drew=w2 at*;have c65':=hW2.c65;have HW:=Y2 hW2 c02;clear hW2 c0 c64 c65 z65;go_wp2_with fail
 refine(Vk (w:=w2) n size (qXy H.o.2.2.1 (Nat.pow_le_pow_right (n:=256) (by omega) h2)) h2 193 #[.pointer (some ⟨m,0,none⟩)] (fun _ _=>rfl)
  (fun i W=>WrAt W g (bs++lowB n i)/\Upd (fun j=>j=g) w2 W) ⟨by simpa[lowB]using HW.o.1,uur _ _⟩ ?_).mono ?_
 .intro i hi W hJ;refine(zaY hJ.1 (by rw[qzd,yj];omega) (UInt8.ofNat (n/256^i)) (hJ.2.ja HW.o.2 hne2) hne).mono ?_;rintro e w' ⟨rfl,h3,h4⟩;refine⟨rfl,?_,hJ.2.trans h4⟩;rw[sG,<-qxx];exact h3
 .rintro e w3 ⟨rfl,hW3,hU3⟩;have c03:=hU3.ja HW.o.2 hne2;have HZ:=Y2 hW3 hU3;clear hW3 hU3;go_wp2
  go_ret
  exact⟨rfl,HZ.o.1,hU2.out.trans HZ.o.2⟩
theorem zba{w:World}{gb ga:Nat}{x:Bk}{i:Nat}(hg:w.heap[gb]?=some (.cells (bkC x).toArray 54 (0,0)))(hx:x.length=64)(hi:i<64)(b:UInt8)
  (ha:w.heap[ga]?=some (.cells #[.int .i64 (i:Int)] 3 (0,0))) (hne:¬gb=ga):
  Calls prog 269 #[.int .u8 ((b.toNat:Nat):Int),.pointer (some ⟨gb,0,none⟩),.pointer (some ⟨ga,0,none⟩)] w fun e w'=>e=.returned (.tuple #[])/\
   w'.heap[gb]?=some (.cells (bkC (x.set i b)).toArray 54 (0,0))/\w'.heap[ga]?=some (.cells #[.int .i64 ((i+1:Nat):Int)] 3 (0,0))/\Upd (fun j=>j=gb\/j=ga) w w':=by
 have c0:w.cell? ⟨ga,0,none⟩=some (.int .i64 (i:Int)):=za ha 0;have z0:=zg ha 0;have cb:∃v,w.cell? ⟨gb,i,none⟩=some v:=by
  rw[za hg];exact⟨_,qxe (by rw[zo _ hx];exact hi)⟩
 obtain⟨v0,cb⟩:=cb;have zb:=zg hg i;have hU:Upd (fun j=>j=gb\/j=ga) w ((w.setCell ⟨gb,i,none⟩ (.int .u8 ((b.toNat:Nat):Int))).setCell ⟨ga,0,none⟩ (.int .i64 ((i:Int)+1))):=
  ((zj w gb i _).mono (fun _ _ h=> .inl h)).trans ((zj _ _ _ _).mono (fun _ _ h=> .inr h))
 have h1:=zi hg i (.int .u8 ((b.toNat:Nat):Int));have h2:((w.setCell ⟨gb,i,none⟩ (.int .u8 ((b.toNat:Nat):Int))).setCell ⟨ga,0,none⟩ (.int .i64 ((i:Int)+1))).heap[gb]?=some (.cells (bkC (x.set i b)).toArray 54 (0,0)):=by
  rw[(zj _ ga 0 _).block gb (zf h1) hne,h1,qXi,Vl];rfl
 have h3:((w.setCell ⟨gb,i,none⟩ (.int .u8 ((b.toNat:Nat):Int))).setCell ⟨ga,0,none⟩ (.int .i64 ((i:Int)+1))).heap[ga]?=some (.cells #[.int .i64 ((i+1:Nat):Int)] 3 (0,0)):=
  zi (((zj w gb i (.int .u8 ((b.toNat:Nat):Int))).block ga (zf ha) (fun e=>hne e.symm)).trans ha) 0 _
 have hb1:0<=(i:Int)/\(i:Int)<64:=⟨by omega,by omega⟩
 obtain⟨hb1,hb2⟩:=hb1;have H:=Y3 h2 h3 hU;clear hU h1 h2 h3 hg ha;go_enter func269,ntmps269
 go_wp2
 go_end0
 exact⟨rfl,H.o.1,H.o.2.1,H.o.2.2⟩
def xD(b:Bk)(i:Nat):Bk:=b.take 60++lowB (crcC (b.take 60)) i++b.drop (60+i)
theorem XS{b:Bk}(h:b.length=64){i:Nat}(hi:i<=4):(xD b i).length=64:=by simp[xD,yj,h];omega
theorem Yy(b:Bk):xD b 0=b:=by simp[xD,lowB]
theorem Yz{b:Bk}(h:b.length=64):xD b 4=sealB b:=by
 unfold xD sealB;rw[List.drop_of_length_le (by omega),qxy]
theorem XT{b:Bk}(h:b.length=64){i:Nat}(hi:i<4):(xD b i).set (60+i) (UInt8.ofNat (crcC (b.take 60)/256^i))=xD b (i+1):=by
 unfold xD;have hl:(b.take 60++lowB (crcC (b.take 60)) i).length=60+i:=by simp[yj,h]
 rw[qXj _ _ (by rw[hl];exact qXv _),hl,Nat.sub_self,sG];have hd:b.drop (60+i)=b[60+i]'(by omega)::b.drop (60+(i+1)):=qyb (by omega);rw[hd,qXl];simp
theorem xP(w:World)(A B C D:Obj):let W:=(((w.alloc A).alloc B).alloc C).alloc D
  W.heap[w.heap.size]?=some A/\W.heap[w.heap.size+1]?=some B/\W.heap[w.heap.size+1+1]?=some C/\W.heap[w.heap.size+1+1+1]?=some D/\W.heap.size=w.heap.size+4/\Upd (fun _=>False) w W:=by
 refine⟨?_,?_,?_,zc _ _ (by simp),by simp,((((uur _ w).alloc _).alloc _).alloc _).alloc _⟩
 .rw [qxk _ _ _ (by simp<;>omega),qxk _ _ _ (by simp<;>omega),qxk _ _ _ (by simp)];exact zc w _ rfl
 .rw [qxk _ _ _ (by simp<;>omega),qxk _ _ _ (by simp)];exact zc _ _ (by simp)
 .rw [qxk _ _ _ (by simp)];exact zc _ _ (by simp)
theorem qB{w:World}(b:Bk)(hb:b.length=64)(hN:Nib w):
  Calls prog 195 #[.agg (bkC b).toArray] w fun e w'=>e=.returned (.agg (bkC (sealB b)).toArray)/\Below w.heap.size w w':=by
 have hmf:=qqf;have HN:=qqh hN;have Hb:=qqh hb;clear hN hb;go_enter func195,ntmps195
 go_wp2_with fail
 show Calls _ _ _ ((((w.alloc (.cells (bkC b).toArray 54)).alloc (.cells (bkC zB).toArray 54)).alloc (.cells #[.int .i64 60] 3)).alloc (.cells #[.slice (some ⟨w.heap.size,0,none⟩) 60 64] 205)) _;obtain⟨hA,hB,hC,hD,hS,hU⟩:=xP w (.cells (bkC b).toArray 54) (.cells (bkC zB).toArray 54) (.cells #[.int .i64 60] 3) (.cells #[.slice (some ⟨w.heap.size,0,none⟩) 60 64] 205);generalize (((w.alloc (.cells (bkC b).toArray 54)).alloc (.cells (bkC zB).toArray 54)).alloc (.cells #[.int .i64 60] 3)).alloc (.cells #[.slice (some ⟨w.heap.size,0,none⟩) 60 64] 205)=w4 at*;have hr:=zh hA;have hrt:w4.rangeAt w.heap.size 0 (bkC (b.take 60)):=fun j v hv=>by
  refine hr j v ?_;have hj:=(qyp.1 hv).1;rw[zn,qzk]at hj;simp only[bkC,qyq]at hv⊢;rw[qyu,if_pos (by omega)]at hv;exact hv
 refine(uc (b.take 60) (HN.o.keep hU (fun h=>h)) (za hD 0) hrt (by rw[qzk,Hb.out];rfl) (by omega) (by omega)).mono ?_;rintro e w5 ⟨rfl,hb5⟩;have hU5:=qqb hb5;have hA5:=(hb5.block _ (zf hA)).trans hA;have hB5:=(hb5.block _ (zf hB)).trans hB;have hC5:=(hb5.block _ (zf hC)).trans hC;have H5:=Y4 hA5 hB5 hC5 (hU.trans hU5);clear hA hB hC hD hS hU hr hrt hb5 hU5 hA5 hB5 hC5;have Hs:=qqh (ve (b.take 60));obtain⟨m,Hm⟩:∃m,Hid (m=w.heap.size):=⟨_,rfl⟩
 have hsum:Hid (∀i,UInt8.ofNat (crcC (b.take 60)/256^i)=UInt8.ofNat (crcC (b.take 60)/256^i)):=fun _=>rfl;go_wp2_with fail
 refine(Vk (w:=w5) (crcC (b.take 60)) 4 (by have:=Hs.out;omega) (by omega) 269 #[.pointer (some ⟨w.heap.size,0,none⟩),.pointer (some ⟨w.heap.size+1+1,0,none⟩)] (fun _ _=>rfl)
  (fun i W=>W.heap[w.heap.size]?=some (.cells (bkC (xD b i)).toArray 54 (0,0))/\W.heap[w.heap.size+1+1]?=some (.cells #[.int .i64 ((60+i:Nat):Int)] 3 (0,0))/\Upd (fun j=>j=w.heap.size\/j=w.heap.size+1+1) w5 W) ⟨by rw[Yy];exact H5.o.1,H5.o.2.2.1,uur _ _⟩ ?_).mono ?_
 .intro i hi W hJ;refine(zba hJ.1 (XS Hb.out (by omega)) (by omega) (UInt8.ofNat (crcC (b.take 60)/256^i)) hJ.2.1 (by omega)).mono ?_;rintro e w' ⟨rfl,h1,h2,h3⟩;rw[XT Hb.out hi]at h1;exact⟨rfl,h1,h2,hJ.2.2.trans h3⟩
 .rintro e w6 ⟨rfl,h1,h2,h3⟩;rw[Yz Hb.out]at h1;have hsl:=vh Hb.out;have r6:=zh h1;have hg6:=(h3.block (w.heap.size+1) (zf H5.o.2.1) (by omega)).trans H5.o.2.1;have hth:w6.there (w.heap.size+1) 0 64:=fun j hj=>by
   rw[za hg6,zg hg6];exact⟨by rw[qYe,qxe (by rw[zo _ zH];exact hj)];rfl,rfl⟩
  have hst:w6.there (w.heap.size+1) 0 (bkC (sealB b)).toArray.size:=by rw[zo _ hsl];exact hth
  have hst2:w6.there (w.heap.size+1) 0 (bkC (sealB b)).length:=by rw[zn,hsl];exact hth
  have hsz2:(prog.info? 54).map (·.size)=some (bkC (sealB b)).toArray.size:=by rw[zo _ hsl];exact zM
  have HST:=Y5 hst hsz2 hst2 hsl h3;clear hst hsz2 hst2 hsl h3 h1 h2 hg6 hth;generalize hsb:sealB b=sb at*;have Hsb:=qqh hsb;clear hsb;go_wp2_with (first
   |(refine qZg rfl _ _ rfl _ _ rfl _ _ r6 underlying54 rfl (zw _ HST.o.2.2.2.1) ?_)
   |(refine qZi rfl _ _ _ rfl _ _ (bkC sb).toArray rfl rfl HST.o.1 HST.o.2.1 (qYu (zv _)) ?_)
   |fail)
  exact qYw (zN rfl _ _ (w.heap.size+1) 0 (bkC sb) _ rfl (qYr _ _ _ _ HST.o.2.2.1) underlying54 rfl (zw _ HST.o.2.2.2.1)) rfl
   ⟨by rw[Hsb.out],zl (zl (Upd.below H5.o.2.2.2) HST.o.2.2.2.2 (qXv _) (fun k e=>by omega)) (zq w6 (w.heap.size+1) 0 _) (qXv _) (fun k e=>by omega)⟩
theorem SU(w:World):(sizeOf 5).run prog w=.ok 1 w:=by
 have hu:(prog.info? 5).map (·.size)=some 1:=by kernel_rfl
 obtain⟨i,hi,hs⟩:=qYi.1 hu;simp[sizeOf,typeInfo,hi,hs]
theorem Vm(x y:Bk)(hx:x.length=64)(hy:y.length=64)(w:World):(Op.equalIn 10000 54 (.agg (bkC x).toArray) (.agg (bkC y).toArray)).run prog w=.ok (x==y) w:=
 run_equalIn_bytes (P:=prog) w 9998 54 5 64 underlying54 underlying5 SU x y hx hy
theorem Below.range{W W':World}(hb:Below W.heap.size W W'){b o:Nat}{cs:List Value}(h:W.rangeAt b o cs):W'.rangeAt b o cs:=
 (uuo (S:=fun _=>False) hb).range h (fun h=>h)
theorem yy{w w':World}(h:Below w.drew.heap.size w.drew w'):Below w.heap.size w w':=⟨h.os,h.tape,h.output,h.size,h.block⟩
def sealedC(b:Bk):Int:=if sealB b=b then 0 else 13
theorem XU{w:World}(b:Bk)(hb:b.length=64)(hN:Nib w):
  Calls prog 197 #[.agg (bkC b).toArray] w fun e w'=>e=.returned (.int .i64 (sealedC b))/\Below w.heap.size w w':=by
 have hua:Upd (fun _=>False) w (w.alloc (.cells (bkC b).toArray 54)):=(uur _ w).alloc _;have hr:=zh (zc w (.cells (bkC b).toArray 54) rfl);have hut:=underlying54;have hsi:=zw b hb;have hlx:(bkC b).length=64:=by rw[zn,hb]
 have hq:=Vm (sealB b) b (vh hb) hb;have HN:Hid (Nib (w.alloc (.cells (bkC b).toArray 54)).drew):=(hN.keep hua (fun h=>h)).keep ((uur (fun _=>False) _).drew) (fun h=>h);have HU:=qqh hua;have Hb:=qqh hb;clear hN hua hb;by_cases hs:sealB b=b
 .have hsc:Hid (sealedC b=0):=if_pos hs;have hqq:(sealB b==b)=true:=by simpa using hs
  have hqn:(!(sealB b==b))=false:=by rw[hqq];rfl
  clear hs;go_enter func197,ntmps197
  go_wp2_with fail
  refine qZj (S:=fun W=>W.rangeAt w.heap.size 0 (bkC b)) (by kernel_rfl) (by rw[qYq];exact hr) (fun hHeld=>?_)
  refine' qZf (i:=0) rfl (by kernel_rfl) (by kernel_rfl) (by kernel_rfl) (fun _ _ _ h=>h) (qZl (by rfl) _ _ rfl _ _ rfl _ _ (fun w h=>h) hut rfl hsi) hHeld _
  simp only[Act.put,qXi]
  refine' qZf (i:=2) rfl (by kernel_rfl) (by kernel_rfl) (by kernel_rfl) (fun _ _ _ h=>h) (qZl (by rfl) _ _ rfl _ _ rfl _ _ (fun w h=>h) hut rfl hsi) hHeld _
  simp only[Act.put];refine Wl.r 1 (fun K hK=>?_);go_simp
  refine(qB b Hb.out HN.o).mono ?_;rintro e w2 ⟨rfl,hb2⟩;refine hK.o _ _ (Below.range hb2 hHeld) (fun hHeld2=>?_);clear hK K;refine Wl.r 3 (fun K hK=>?_);go_simp
  refine hK.o _ _ hHeld2 (fun _=>?_);clear hK K;refine Wl.d ?_;have HB:Hid (Below w.heap.size w w2):=(Upd.below HU.o).trans ((yy hb2).mono HU.o.size);clear hHeld hHeld2 hb2;go_wp2
  go_ret
  exact⟨by rw[hsc.out];rfl,HB.o⟩
 .have hsc:Hid (sealedC b=13):=if_neg hs;have hqq:(sealB b==b)=false:=by simpa using hs
  have hqn:(!(sealB b==b))=true:=by rw[hqq];rfl
  clear hs;go_enter func197,ntmps197
  go_wp2_with fail
  refine qZj (S:=fun W=>W.rangeAt w.heap.size 0 (bkC b)) (by kernel_rfl) (by rw[qYq];exact hr) (fun hHeld=>?_)
  refine' qZf (i:=0) rfl (by kernel_rfl) (by kernel_rfl) (by kernel_rfl) (fun _ _ _ h=>h) (qZl (by rfl) _ _ rfl _ _ rfl _ _ (fun w h=>h) hut rfl hsi) hHeld _
  simp only[Act.put,qXi]
  refine' qZf (i:=2) rfl (by kernel_rfl) (by kernel_rfl) (by kernel_rfl) (fun _ _ _ h=>h) (qZl (by rfl) _ _ rfl _ _ rfl _ _ (fun w h=>h) hut rfl hsi) hHeld _
  simp only[Act.put];refine Wl.r 1 (fun K hK=>?_);go_simp
  refine(qB b Hb.out HN.o).mono ?_;rintro e w2 ⟨rfl,hb2⟩;refine hK.o _ _ (Below.range hb2 hHeld) (fun hHeld2=>?_);clear hK K;refine Wl.r 3 (fun K hK=>?_);go_simp
  refine hK.o _ _ hHeld2 (fun _=>?_);clear hK K;refine Wl.d ?_;have HB:Hid (Below w.heap.size w w2):=(Upd.below HU.o).trans ((yy hb2).mono HU.o.size);clear hHeld hHeld2 hb2;go_wp2
  go_ret
  exact⟨by rw[hsc.out];rfl,HB.o⟩
theorem zbb{w:World}{g:Nat}{bs:List UInt8}(h:WrAt w g bs)(hN:Nib w):
  Calls prog 124 #[.pointer (some ⟨g,0,none⟩)] w fun e w'=>e=.returned (.tuple #[.agg (bkC (sealB (padB bs))).toArray,.int .i64 0])/\Below w.heap.size w w':=by
 have H:=Y2 h hN;have hlw:=h.lt;clear h hN;have hu:Upd (fun _=>False) w (w.alloc (.cells (bkC zB).toArray 54)):=(uur _ w).alloc _;have hg1:=zc w (.cells (bkC zB).toArray 54) rfl;have h1:=H.o.1.keep hu (fun h=>h);have c65:=H.o.1.c65;have rr:=H.o.1.range;have hpl:Hid ((padB bs).length=64):=wI (by have:=h1.1;omega);have HX:=Y3 h1 hu hg1;clear h1 hu hg1;go_enter func124,ntmps124
 go_wp2_with (first
  |(refine qZg rfl _ _ rfl _ _ rfl _ _ (qYp rr _) underlying54 rfl (zw _ hpl.out) ?_)
  |fail)
 show Calls _ _ _ (w.alloc (.cells (bkC zB).toArray 54)) _;generalize (w.alloc (.cells (bkC zB).toArray 54))=w1 at*;obtain⟨h1,hu,hg1⟩:=HX.o;refine(qB (padB bs) hpl.out (H.o.2.keep hu (fun h=>h))).mono ?_;rintro e w6 ⟨rfl,hb⟩;have hsl:=vh hpl.out;have hg6:=(hb.block w.heap.size (zf hg1)).trans hg1;have hth:w6.there w.heap.size 0 64:=fun j hj=>by
  rw[za hg6,zg hg6];exact⟨by rw[qYe,qxe (by rw[zo _ zH];exact hj)];rfl,rfl⟩
 have hst:w6.there w.heap.size 0 (bkC (sealB (padB bs))).toArray.size:=by rw[zo _ hsl];exact hth
 have hst2:w6.there w.heap.size 0 (bkC (sealB (padB bs))).length:=by rw[zn,hsl];exact hth
 have hsz2:(prog.info? 54).map (·.size)=some (bkC (sealB (padB bs))).toArray.size:=by rw[zo _ hsl];exact zM
 have HST:=Y6 hst hsz2 hst2 hsl hb hu;clear hst hsz2 hst2 hsl hg6 hth h1 hu hg1 hb;generalize hsb:sealB (padB bs)=sb at*;have Hsb:=qqh hsb;clear hsb;go_wp2_with (first
  |(refine qZi rfl _ _ _ rfl _ _ (bkC sb).toArray rfl rfl HST.o.1 HST.o.2.1 (qYu (zv _)) ?_)
  |fail)
 exact qYw (zp rfl _ _ w.heap.size 0 (bkC sb) _ rfl (qYr _ _ _ _ HST.o.2.2.1) underlying54 rfl (zw _ HST.o.2.2.2.1)) rfl
   ⟨by rw[Hsb.out];rfl,zl ((Upd.below HST.o.2.2.2.2.2).trans (HST.o.2.2.2.2.1.mono HST.o.2.2.2.2.2.size)) (zq w6 w.heap.size 0 _) (qXv _) (fun k e=>by omega)⟩
def yM(w:World)(g:Nat)(b:Bk)(at_:Nat):Prop:=
 b.length=64/\at_<=60/\w.heap[g]?=some (.cells (bkC b++[Value.int .i64 (at_:Int),Value.int .i64 0]).toArray 396 (0,0))
section
variable{w w':World}{g at_:Nat}{b:Bk}
theorem yM.lt(h:yM w g b at_):g<w.heap.size:=zf h.2.2
theorem yM.keep(h:yM w g b at_){S:Nat->Prop}(hu:Upd S w w')(hs:¬S g):yM w' g b at_:=⟨h.1,h.2.1,(hu.block g h.lt hs).trans h.2.2⟩
theorem yM.len(h:yM w g b at_):(bkC b).length=64:=by rw[zn,h.1]
theorem yM.c64(h:yM w g b at_):w.cell? ⟨g,64,none⟩=some (.int .i64 (at_:Int)):=by
 rw[za h.2.2,qyv,qyj (by rw[h.len];omega),h.len];rfl
theorem yM.c65(h:yM w g b at_):w.cell? ⟨g,65,none⟩=some (.int .i64 0):=by
 rw[za h.2.2,qyv,qyj (by rw[h.len];omega),h.len];rfl
theorem yM.fz(h:yM w g b at_)(i:Nat):w.frozen? ⟨g,i,none⟩=false:=zg h.2.2 i
theorem yM.byte(h:yM w g b at_){i:Nat}(hi:i<b.length):w.cell? ⟨g,i,none⟩=some (.int .u8 ((b[i].toNat:Nat):Int)):=by
 rw[za h.2.2,qyv,qyi (by rw[zn];exact hi)];simp only[bkC,qyq,qyn hi,Option.map_some];rfl
theorem yM.set65(h:yM w g b at_):yM (w.setCell ⟨g,65,none⟩ (.int .i64 0)) g b at_:=by
 refine⟨h.1,h.2.1,?_⟩;rw[zi h.2.2 65 (.int .i64 0)]
 congr 2
 rw[qXi,qXj _ _ (by rw[h.len];omega),h.len];rfl
theorem yM.set64(h:yM w g b at_){n:Nat}(hn:n<=60):yM (w.setCell ⟨g,64,none⟩ (.int .i64 (n:Int))) g b n:=by
 refine⟨h.1,hn,?_⟩;rw[zi h.2.2 64 (.int .i64 (n:Int))]
 congr 2
 rw[qXi,qXj _ _ (by rw[h.len];omega),h.len];rfl
end
theorem Us(l:List UInt8)(b:UInt8):numB (l++[b])=numB l|||(b.toNat<<<(8*l.length))/\numB (l++[b])=numB l+b.toNat*2^(8*l.length)/\numB l<2^(8*l.length):=by
 have hlt:∀l:List UInt8,numB l<2^(8*l.length):=by
  intro l
  induction l with
  |nil=>simp[numB]
  |cons a l ih=>
   have ha:=a.toNat_lt;simp only[numB,qze];rw[show 8*(l.length+1)=8*l.length+8 by omega,Nat.pow_add];omega
 have hadd:numB (l++[b])=numB l+b.toNat*2^(8*l.length):=by
  induction l with
  |nil=>simp[numB]
  |cons a l ih=>
   simp only[qya,numB,qze];rw[ih,show 8*(l.length+1)=8+8*l.length by omega,Nat.pow_add];rw[show(2:Nat)^8=256 from rfl];rw[Nat.mul_add,qXr,Nat.mul_left_comm]
 refine⟨?_,hadd,hlt l⟩;rw[hadd,Nat.shiftLeft_eq,Nat.add_comm,Nat.mul_comm,Nat.two_pow_add_eq_or_of_lt (hlt l),Nat.or_comm]
theorem XV(M:Nat)(h:M<4611686018427387904):wrap64 (M:Int)=M:=by unfold wrap64;omega
theorem Ab(A c m:Nat)(hA:A<281474976710656)(hc:c<256)(hm:2^m<=281474976710656):bits .or .i64 (A:Int) (wrap64 ((c:Int)*2^m))=((A|||c<<<m:Nat):Int):=by
 have h1:c*2^m<=255*281474976710656:=Nat.mul_le_mul (by omega) hm;have hcast:((c:Int)*2^m)=((c*2^m:Nat):Int):=by rw[Int.natCast_mul,Int.natCast_pow];rfl
 rw[hcast,<-Nat.shiftLeft_eq];rw[<-Nat.shiftLeft_eq]at h1;generalize c<<<m=M at*;rw[XV M (by omega)];exact Yu _ _ (by omega) (by omega)
theorem EB{w:World}{g at_:Nat}{b:Bk}(h:yM w g b at_)(size:Nat)(h1:1<=size)(h2:size<=7)(hl:at_+size<=60):
  Calls prog 199 #[.pointer (some ⟨g,0,none⟩),.int .i64 (size:Int)] w fun e w'=>e=.returned (.int .i64 ((numB ((b.drop at_).take size):Nat):Int))/\yM w' g b (at_+size)/\Upd (fun j=>j=g) w w':=by
 have c64:=h.c64;have c65:=h.c65;have z65:=h.fz 65;have H:=qqh h;have HL:=Y3 h1 h2 hl;have hat:=h.2.1;clear h;go_enter func199,ntmps199
 go_wp2_with fail
 rw[show(60:Int)-(at_:Int)=((60-at_:Nat):Int) by omega];refine(Qb 0 size (60-at_) h1 h2 (Nat.pow_pos (by omega)) (by omega) (by omega) _).mono ?_;rintro e w' ⟨rfl,rfl⟩;go_wp2
 have h':=H.o.set65;have hU:Upd (fun j=>j=g) w' (w'.setCell ⟨g,65,none⟩ (.int .i64 0)):=zj _ _ _ _;generalize (w'.setCell ⟨g,65,none⟩ (.int .i64 0))=w1 at*;have H1:=Y2 h' hU;clear h' hU c64 c65 z65;go_loopw[5,32] (fun s5 s32 wr=>∃k:Nat,k<=size/\s32=.int .i64 k/\s5=.int .i64 ((numB ((b.drop at_).take k):Nat):Int)/\yM wr g b at_/\Upd (fun j=>j=g) w' wr) (fun _ s32 _=>size-(intOf s32).toNat)
 case atStart=>exact⟨0,qYf _,rfl,by simp[numB],H1.o.1,H1.o.2⟩
 case round=>
  obtain⟨k,hk,rfl,rfl,hr,hu⟩:=hrel;have c64:=hr.c64;by_cases hlt:k<size
  .have hbl:b.length=64:=hr.1;have hi:at_+k<b.length:=by omega
   have cb:=hr.byte hi;have e1:IntKind.i64.wrap ((at_:Int)+(k:Int))=(at_:Int)+(k:Int):=qxv _ (by omega);have e2:((at_:Int)+(k:Int)).toNat=at_+k:=by omega
   have e3:IntKind.i64.wrap (8*(k:Int))=8*(k:Int):=qxv _ (by omega);have b1:(0:Int)<=(at_:Int)+(k:Int)/\(at_:Int)+(k:Int)<64:=by omega
   obtain⟨b1,b2⟩:=b1;have hts:(b.drop at_).take (k+1)=(b.drop at_).take k++[b[at_+k]]:=by
    rw[qXq (by simp;omega)];simp
   have hln:((b.drop at_).take k).length=k:=by simp;omega
   obtain⟨n1,n2,n3⟩:=Us ((b.drop at_).take k) b[at_+k];rw[hln]at n1 n2 n3;have hbt:b[at_+k].toNat<256:=b[at_+k].toNat_lt;have HH:=Y5 hr hu hts n1 n3;clear hr hu hts hln n1 n2 n3 hbl;generalize b[at_+k].toNat=by1 at*;go_wp2
   go_quiet(fail)
   clear e1 e2 e3 b1 b2;have hpw:(2:Nat)^(8*k)<=281474976710656:=qXx (Nat.pow_le_pow_right (by decide) (show 8*k<=48 by omega)) (by decide);have hv:bits .or .i64 ((numB ((b.drop at_).take k):Nat):Int) (wrap64 ((by1:Int)*2^(8*k)))=((numB ((b.drop at_).take (k+1)):Nat):Int):=by
    obtain⟨-,-,hts,n1,n3⟩:=HH.o;rw[hts,n1];exact Ab _ _ _ (qXy n3 hpw) (by omega) hpw
   rw[hv];have hr2:=HH.o.1.keep ((uur (fun _=>False) wr).drewN nq) (fun h=>h);have hu2:Upd (fun j=>j=g) w' (wr.drewN nq):=HH.o.2.1.drewN nq;have HZ:=Y2 hr2 hu2;clear hr2 hu2 hv hpw;generalize wr.drewN nq=wz at*;go_wp2
   go_roundw
   case rel=>exact⟨k+1,by omega,by go_num,rfl,HZ.o.1,HZ.o.2⟩
   case measure=>simp[intOf];omega
  .obtain rfl:k=size:=by omega
   have z64:=hr.fz 64;have h9:=hr.set64 (n:=at_+k) (by omega);rw[show((at_+k:Nat):Int)=(at_:Int)+(k:Int)from rfl]at h9;have HH:=Y2 h9 hu;clear hr hu h9;go_wp2
   go_ret
   exact⟨rfl,HH.o.1,HH.o.2.trans (zj _ _ _ _)⟩
theorem Vn:Tryz.zeroCells396.size=66:=by kernel_rfl
theorem YA:Tryz.zeroCells396[64]?=some (.int .i64 0)/\Tryz.zeroCells396[65]?=some (.int .i64 0):=by constructor<;>kernel_rfl
theorem Qc(x:Bk)(hx:x.length=64):List.foldl (fun(cs:Array Value) (x:Value×Nat)=>cs.setIfInBounds x.2 x.1) Tryz.zeroCells396 (bkC x).zipIdx=(bkC x++[Value.int .i64 0,Value.int .i64 0]).toArray:=by
 have hb:(bkC x).length=64:=by rw[zn,hx]
 obtain⟨f1,f2⟩:=Go.Great.foldl_set 0 (bkC x) 0 Tryz.zeroCells396;simp only[qYe]at f2;apply qxd
 intro k;have e:(bkC x++[Value.int .i64 0,Value.int .i64 0]).toArray[k]?=(bkC x++[Value.int .i64 0,Value.int .i64 0])[k]?:=qyv;rw[f2 k,Vn,e];by_cases hk:k<64
 .rw [if_pos ⟨by omega,by omega,by omega⟩,qyi (by omega)];rfl
 .rw [if_neg (by omega),qyj (by omega),hb];by_cases h4:k=64
  .subst h4;exact YA.1
  .by_cases h5:k=65
   .subst h5;exact YA.2
   .rw [qxf (by rw[Vn];omega),qyo (by simp;omega)]
theorem zbc{w:World}(b:Bk)(hb:b.length=64):
  Calls prog 198 #[.agg (bkC b).toArray] w fun e w'=>∃g,e=.returned (.pointer (some ⟨g,0,none⟩))/\yM w' g b 0/\w.heap.size<=g/\Below w.heap.size w w':=by
 have hr:=zh (zc w (.cells (bkC b).toArray 54) rfl);have Hb:=qqh hb;have hbu:=Qc b hb;have hlx:(bkC b).length=64:=by rw[zn,hb]
 clear hb;go_enter func198,ntmps198
 go_wp2_with (first
  |(refine qZg rfl _ _ rfl _ _ rfl _ _ hr underlying54 rfl (zw _ Hb.out) ?_)
  |fail)
 go_ret
 exact⟨w.heap.size+1,rfl,⟨Hb.out,by omega,zc _ _ (by simp)⟩,by omega,((qxl _ w).alloc (qXv _) _).alloc (by simp) _⟩
def endB(b:Bk)(at_:Nat):Bool:=((b.drop at_).take (60-at_)).all (·==0)
def endC(b:Bk)(at_:Nat):Int:=if endB b at_=true then 0 else 12
theorem zct{w:World}{g at_:Nat}{b:Bk}(h:yM w g b at_):
  Calls prog 200 #[.pointer (some ⟨g,0,none⟩)] w fun e w'=>e=.returned (.int .i64 (endC b at_))/\Below w.heap.size w w':=by
 have c64:=h.c64;have c65:=h.c65;have hat:=h.2.1;have hbl:=qqh h.1;have H:=qqh h;clear h;have b1:(0:Int)<=(at_:Int)/\(at_:Int)<=60:=by omega
 obtain⟨b1,b2⟩:=b1;have e3:IntKind.i64.wrap (60-(at_:Int))=60-(at_:Int):=qxv _ (by omega);go_enter func200,ntmps200
 go_wp2
 go_quiet(fail)
 go_wp2
 have hr:=H.o.keep ((uur (fun _=>False) w).drewN nq) (fun h=>h);have HB:Hid (Below w.heap.size w (w.drewN nq)):=zV (qxl _ w) nq;clear c64 c65 e3;generalize w.drewN nq=w1 at*
 go_loop [25] (fun s25=>∃k:Nat,k<=60-at_/\s25=.int .i64 k/\((b.drop at_).take k).all (·==0)=true) (fun s25=>60-at_-(intOf s25).toNat)
 case atStart=>exact⟨0,qYf _,rfl,by simp⟩
 case round=>
  obtain⟨k,hk,rfl,ha⟩:=hrel;have HA:=qqh ha;clear ha;by_cases hlt:k<60-at_
  .have hi:at_+k<b.length:=by rw[hbl.out];omega
   have cb:=hr.byte hi;have hts:Hid ((b.drop at_).take (k+1)=(b.drop at_).take k++[b[at_+k]]):=by
    show _=_;rw[qXq (by simp;have:=hbl.out;omega)];simp
   have b3:(0:Int)<=(k:Int)/\(k:Int)<((60-at_:Nat):Int):=by omega
   have b4:(k:Int)<((64-at_:Nat):Int):=by omega
   obtain⟨b3,b3'⟩:=b3;by_cases hz:b[at_+k]=0
   .have hq:(((b[at_+k].toNat:Nat):Int)==0)=true:=by rw[hz];rfl
    have hq2:(((b[at_+k].toNat:Nat):Int) !=0)=false:=by rw[hz];rfl
    have HZ:=qqh hz;clear hz;generalize b[at_+k].toNat=by1 at*;go_wp2
    go_round
    case rel=>exact⟨k+1,by omega,by go_num,by rw[hts.out,List.all_append,HA.o,HZ.o];rfl⟩
    case measure=>simp[intOf];omega
   .have hq:(((b[at_+k].toNat:Nat):Int)==0)=false:=by
     rw[qYv];intro e;exact hz (UInt8.toNat_inj.1 (by have:(0:UInt8).toNat=0:=rfl;omega))
    have hq2:(((b[at_+k].toNat:Nat):Int) !=0)=true:=by simp[bne,hq]
    have hend:Hid (endC b at_=12):=by
     show _=_;unfold endC;rw[if_neg];intro e;unfold endB at e;rw[qxw]at e;have hm:b[at_+k]∈(b.drop at_).take (60-at_):=by
      have h1:b[at_+k]∈(b.drop at_).take (k+1):=by rw[hts.out];simp
      exact(List.take_subset_take_left _ (by omega)) h1
     exact hz (by simpa using e _ hm)
    clear hz;generalize b[at_+k].toNat=by1 at*;go_wp2
    go_ret
    exact⟨by rw[hend.out];rfl,HB.o⟩
  .obtain rfl:k=60-at_:=by omega
   have hend:Hid (endC b at_=0):=if_pos HA.o;go_wp2
   go_ret
   exact⟨by rw[hend.out];rfl,HB.o⟩
end Go.Proofs.YtfhfbpmlnjdfoaaGreatDoor
