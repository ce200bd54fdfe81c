/- A log's Get of -/
import Derived.Test.YtbnpkobbnjihjaaGreatDoorG12
import Derived.Test.YtbnpkobbnjihjaaGreatDoorG11
set_option maxRecDepth 100000
set_option maxHeartbeats 1000000
namespace Go.Proofs.YtbnpkobbnjihjaaGreatDoor
open Go Go.RowKit Tryz
variable{w:World}
theorem uY{P:Prop}(h:P:=by
 obtain⟨Z,hZ⟩:∃Z:List Value,Z=zL:=⟨_,rfl⟩
 have hal:=ZZ;rw[<-hZ];simp only[<-hZ]at hal;have HZZ:Hid (Z.length=n1z/\Z.toArray.size=n1z/\(prog.info? n2z).map (·.size)=some Z.toArray.size/\(Z.toArray).all (·.oneCell')=true/\(prog.info? n2z).map (·.size)=some Z.length):=⟨by rw[hZ];rfl,by rw[hZ];rfl,by rw[hZ];exact q3z,by rw[hZ];exact Tc,by rw[hZ];exact q3z⟩
 clear hZ;obtain⟨w1,hw1⟩:=qqe ((w.alloc (.cells Z.toArray n2z)).alloc (.cells Z.toArray n2z));have hu1:Upd (fun _=>False) w w1:=by rw[hw1];exact((uur _ w).alloc _).alloc _
 have gA:w1.heap[w.heap.size]?=some (.cells Z.toArray n2z):=by rw[hw1,qxk _ _ _ oe];exact zc w _ rfl
 have gB:w1.heap[w.heap.size+1]?=some (.cells Z.toArray n2z):=by rw[hw1];exact zc _ _ oe
 obtain⟨-,-,c2,-⟩:=(hl.keep hu1 id).c;have rB:=zf gB;have tA:=zy (n:=n1z) gA (by rw[HZZ.o.2.1];exact qXp _);have hb:decide (i<0)=true\/decide (i<0)=false/\decide ((n:Int)<=i)=true:=by
  by_cases h1:i<0
  .exact .inl (by simpa using h1)
  .exact .inr ⟨by simpa using h1,by simpa using hi.resolve_left h1⟩
 obtain⟨m,hm⟩:=qqe (w.heap.size);rw[<-hm]at rB tA;have HW:=Y3 hw1 hu1 hm;clear hw1 hu1 gA gB hl hi hm;rcases hb with z1|⟨z1,z2⟩
 all_goals
  go_enter q4z,q5z
  go_upto_region 4 with(first|(refine zT rfl _ rfl _ hal ?_)|fail)
  rw[<-HW.o.1,<-HW.o.2.2];go_wp2_with (first
   |(refine qZa rfl _ _ rfl _ _ rfl _ _ rB q6z rfl HZZ.o.2.2.2.2 ?_)
   |(refine qZc rfl _ _ _ rfl _ _ Z.toArray rfl rfl jH HZZ.o.2.2.1 HZZ.o.2.2.2.1 ?_)
   |fail)
  refine qYq (zp rfl _ _ m 0 Z _ rfl (qYl _ _ _ _ (by rw[HZZ.o.1];exact tA)) q6z rfl HZZ.o.2.2.2.2) rfl ?_;exact⟨rfl,zj (Upd.below HW.o.2.1) (zo w1 m 0 _) (qXp _) (fun k hk=>by rw[hk,HW.o.2.2];exact qXp _)⟩):P:=h
open fLogZC in
theorem QD{l b base n fi:Nat}(hl:LogC w l b base n fi){i:Int}(hi:i<0\/(n:Int)<=i):
  Calls prog 154 #[.pointer (some ⟨l,0,none⟩),.int .i64 i] w fun e w'=>e=.returned (.tuple #[.agg zL.toArray,.int .i64 10])/\Below w.heap.size w w':=uY
open fLogZF in
theorem QE{l b base n fi:Nat}(hl:LogF w l b base n fi){i:Int}(hi:i<0\/(n:Int)<=i):
  Calls prog 155 #[.pointer (some ⟨l,0,none⟩),.int .i64 i] w fun e w'=>e=.returned (.tuple #[.agg zL.toArray,.int .i64 10])/\Below w.heap.size w w':=uY
structure LgsZ(S:Nat->Prop)(w:World)(li lc lf d base k:Nat)(F:List Bk)(O:List (Nat×Bk)):Prop where
 i:LogI w li d base k 118
 c:LogC w lc d (base+k) k 122
 f:LogF w lf d (base+k+k) k 126
 dv:Dv S w d F O []
 fl:base+k+k+k<=F.length
 nS:∀j,w.heap.size<=j->S j
 iS:¬S li
 cS:¬S lc
 fS:¬S lf
 nib:Nib w
 nibS:¬S 1
 zs:∀j,j<k+k+k->curB F O (base+j)=zB
section
variable{S:Nat->Prop}{w w':World}{li lc lf d base k:Nat}{F:List Bk}{O:List (Nat×Bk)}
theorem LgsZ.turn(b:LgsZ S w li lc lf d base k F O)(h:Upd S w w')(j:Dv S w' d F O []):LgsZ S w' li lc lf d base k F O:=
 {b with i:=b.i.keep h b.iS,c:=b.c.keep h b.cS,f:=b.f.keep h b.fS,dv:=j,nS:=fun n p=>b.nS n (qXr h.size p),nib:=b.nib.keep h b.nibS}
theorem LgsZ.allI(h:LgsZ S w li lc lf d base k F O):Calls prog 127 #[.pointer (some ⟨li,0,none⟩)] w (Qy S w d F O 0):=
 zaz h.i h.dv h.nS h.iS h.nib h.nibS jl (fun i b=>h.zs i oM)
theorem LgsZ.allC(h:LgsZ S w li lc lf d base k F O):Calls prog 160 #[.pointer (some ⟨lc,0,none⟩)] w (Qy S w d F O 0):=
 zaA h.c h.dv h.nS h.cS h.nib h.nibS jl (fun i b=>by have:=h.zs (k+i) oM;rwa[<-qXl]at this)
theorem LgsZ.allF(h:LgsZ S w li lc lf d base k F O):Calls prog 200 #[.pointer (some ⟨lf,0,none⟩)] w (Qy S w d F O 0):=
 zaB h.f h.dv h.nS h.fS h.nib h.nibS jl (fun i b=>by have:=h.zs (k+k+i) oM;rwa[<-qXl,<-qXl]at this)
theorem LgsZ.box(b:LgsZ S w li lc lf d base k F O)(j:Upd (fun _=>False) w w'):LgsZ (fun n=>(S n/\n<w.heap.size)\/w'.heap.size<=n) w' li lc lf d base k F O where
 i:=b.i.keep j id
 c:=b.c.keep j id
 f:=b.f.keep j id
 dv:=(b.dv.kw (T:=fun n=>S n/\n<w.heap.size) (fun n h1 h2=>⟨h1,h2⟩)).keep j (fun _ _ b=>b)|>.wide (fun n b=> .inl b)
 fl:=b.fl
 nS:=fun n p=> .inr p
 iS:=fun h=>by have:=b.i.lt;have:=j.size;rcases h with h|h;exact b.iS h.1;omega
 cS:=fun h=>by have:=b.c.lt;have:=j.size;rcases h with h|h;exact b.cS h.1;omega
 fS:=fun h=>by have:=b.f.lt;have:=j.size;rcases h with h|h;exact b.fS h.1;omega
 nib:=b.nib.keep j id
 nibS:=fun h=>by have:=b.nib.lt;have:=j.size;rcases h with h|h;exact b.nibS h.1;omega
 zs:=b.zs
theorem LgsZ.back{w1:World}(h:LgsZ S w li lc lf d base k F O)(n:Upd (fun _=>False) w w1)(p:Dv (fun b=>(S b/\b<w.heap.size)\/w1.heap.size<=b) w' d F O [])(q:Upd (fun b=>(S b/\b<w.heap.size)\/w1.heap.size<=b) w1 w'):Dv S w' d F O []/\Upd S w w':=by
 have s:=n.size;exact⟨p.wide (fun b j=>j.elim (fun h=>h.1) (fun j=>h.nS b oM)),(n.mono fE).new q (fun i v j=>j.elim (fun h=>h.1) (fun j=>oM))⟩
def zds(S:Nat->Prop)(w:World)(d:Nat)(F:List Bk)(O:List (Nat×Bk))(v:Value)(e:Ending)(w':World):Prop:=e=.returned v/\Dv S w' d F O []/\Upd S w w'
theorem Zcg15{P:Prop}(h:P:=by
  go_wp2_with fail
  refine j.o.mono ?_;rintro e A ⟨rfl,n,p⟩;have q:=Y2 n p;clear n p j;go_wp2_with fail
  go_loopg[21] 0 (fun gk D wr=>D=.int .i64 0/\wr=A)
  case atStart=>exact⟨rfl,rfl⟩
  case round=>
   obtain⟨rfl,s⟩:=hrel;rw[s];clear s;go_wp2_with fail
   go_ret
   exact⟨rfl,q.o.1,q.o.2⟩):P:=h
theorem Yi(b:LgsZ S w li lc lf d base k F O)(m:Value)(v:∃h,m=.map (some h)):Calls prog 128 #[.pointer (some ⟨lc,0,none⟩),m,.func (.func 129) #[] #[]] w (zds S w d F O (.int .i64 0)):=by
 have j:=qqh b.allC;obtain⟨h,rfl⟩:=v;clear b;go_enter func128,ntmps128
 exact Zcg15
theorem Yj(b:LgsZ S w li lc lf d base k F O)(m:Value)(v:∃h,m=.map (some h)):Calls prog 130 #[.pointer (some ⟨lf,0,none⟩),m,.func (.func 131) #[] #[]] w (zds S w d F O (.int .i64 0)):=by
 have j:=qqh b.allF;obtain⟨h,rfl⟩:=v;clear b;go_enter func130,ntmps130
 exact Zcg15
theorem VF(n:LgsZ S w li lc lf d base k F O):Calls prog 70 #[.agg #[.pointer (some ⟨li,0,none⟩),.pointer (some ⟨lc,0,none⟩),.pointer (some ⟨lf,0,none⟩)]] w (zds S w d F O (.tuple #[.slice none 0 0,.int .i64 0])):=by
 have aj:= @run_makeMap prog;obtain⟨w1,v⟩:=qqe (w.alloc (.cells #[.pointer (some ⟨li,0,none⟩),.pointer (some ⟨lc,0,none⟩),.pointer (some ⟨lf,0,none⟩)] 93));have D:=qqu v;have A:=qqg v;have h1:=n.box D;obtain⟨p,q⟩:∃p:Nat->Prop,p=fun h=>(S h/\h<w.heap.size)\/w1.heap.size<=h:=⟨_,rfl⟩
 rw[<-q]at h1;have Q:¬p w.heap.size:=by rw[q];have:=zd A;rintro(n|n)<;>omega
 have R:∀h,w1.heap.size<=h->p h:=fun h a8=>by rw[q];exact .inr a8
 have b:=Y7 n D h1 q Q A R;have aa:=qqh v;have ab:=za A 0;have T:=qqh h1.allI;clear n D h1 q Q v A R;go_enter func70,ntmps70
 go_wp2_with fail
 rw[<-aa.o];refine T.o.mono ?_;rintro e j ⟨rfl,E,G⟩;obtain⟨ad,s⟩:=qqe (j.alloc (.map #[] 0));have H:Upd p j ad:=by rw[s];exact((uur _ j).alloc _)
 have J:=(b.o.2.2.1.turn G E).turn H (E.new (by rw[s];exact((uur _ j).alloc _)));have K:=G.trans H;have c1:=za ((K.block _ (zd b.o.2.2.2.2.2.1) b.o.2.2.2.2.1).trans b.o.2.2.2.2.2.1) 1;have U:=qqh (Yi J (.map (some j.heap.size)) ⟨_,rfl⟩);have V:=Y2 J K;have ae:=qqh s;rw[s]at c1;clear J E G H K T ab s;go_wp2_with fail
 rw[<-ae.o];refine U.o.mono ?_;rintro e ak ⟨rfl,W,L⟩;have X:=V.o.1.turn L W;have M:=V.o.2.trans L;have c2:=za ((M.block _ (zd b.o.2.2.2.2.2.1) b.o.2.2.2.2.1).trans b.o.2.2.2.2.2.1) 2;have Y:=qqh (Yj X (.map (some j.heap.size)) ⟨_,rfl⟩);have af:=qqh M;clear X W L M U c1;go_wp2_with fail
 refine Y.o.mono ?_;rintro e ag ⟨rfl,N,Z⟩;have P:=af.o.trans Z;rw[b.o.2.2.2.1]at N P;have a6:=qqh (b.o.1.back b.o.2.1 N P);clear N Z P Y c2;go_wp2_with fail
 go_loopg[9,38] 0 (fun gk ah ai wr=>ah=.slice none 0 0/\ai=.int .i64 0/\wr=ag)
 case atStart=>exact⟨rfl,rfl,rfl⟩
 case round=>
  obtain⟨rfl,rfl,a7⟩:=hrel;rw[a7];clear a7;go_wp2_with fail
  go_ret2
  exact⟨rfl,a6.o.1,a6.o.2⟩
end
def szS:List Nat:=[6,2,2,2,2,2,1]
def VG(gs gt:Nat):Value:=.agg #[.int .i64 1,.slice (some ⟨gs,0,none⟩) 7 7,.func (.func 93) #[] #[],.func (.func 167) #[] #[.pointer (some ⟨gt,0,none⟩)],.func (.func 95) #[] #[]]
def Jo(w:World)(gs gt:Nat):Prop:=w.rangeAt gs 0 (ints (natsI szS))/\Bnd w (.func (.func 167) #[] #[.pointer (some ⟨gt,0,none⟩)]) bndS
theorem zaK:(prog.info? 117).map (·.size)=some 5:=kR
theorem yw:(prog.info? 38).map (·.size)=some 7:=kR
theorem wO(w:World):Calls prog 54 #[] w fun e w'=>∃gs b,e=.returned (VG gs b)/\Jo w' gs b/\Below w.heap.size w w':=by
 have p:=qqf;go_enter func54,ntmps54
 go_wp2_with fail
 refine(vD).mono ?_;rintro e w1 ⟨rfl,rfl⟩;go_wp2
 obtain⟨h1,h2,h,j,q,n⟩:=xS w (.cells #[.int .i64 1,.slice (some ⟨w.heap.size+1,0,none⟩) 7 7,.func (.func 93) #[] #[],.func (.func 167) #[] #[.pointer (some ⟨w.heap.size+1+1+1,0,none⟩)],.func (.func 95) #[] #[]] 117) (.cells (ints (natsI szS)).toArray 3)
  (.cells (bndC bndS).toArray 176) (.cells #[.slice (some ⟨w.heap.size+1+1,0,none⟩) 7 7] 260)
 refine qYq (zq rfl _ _ w.heap.size 0 [.int .i64 1,.slice (some ⟨w.heap.size+1,0,none⟩) 7 7,.func (.func 93) #[] #[],.func (.func 167) #[] #[.pointer (some ⟨w.heap.size+1+1+1,0,none⟩)],.func (.func 95) #[] #[]] _ rfl (zf h1) underlying117 rfl zaK) rfl
  ⟨w.heap.size+1,w.heap.size+1+1+1,rfl,⟨zf h2,w.heap.size+1+1+1,w.heap.size+1+1,7,rfl,za j 0,zf h⟩,Upd.below n⟩
def sectS(xs:List Int):Bk:=sectB 1 (numL szS xs)
theorem tJ{xs:List Int}(h:xs.length=7):(sectS xs).length=64:=yT jB
def XR(w:World)(xs:List Int)(e:Ending)(w':World):Prop:=
 ((mayS xs=true/\e=.returned (.tuple #[.agg (bkC (sectS xs)).toArray,.int .i64 0]))\/(mayS xs=false/\e=.returned (.tuple #[.agg (bkC zB).toArray,.int .i64 10])))/\Below w.heap.size w w'
theorem XS{w:World}{gs j:Nat}(E:Jo w gs j)(G:Nib w)(cs:List Value)(H:cs.length=7)(xs:List Int)(hxl:xs.length=7)
  (J:∀b,Calls prog 93 #[.agg cs.toArray] b (zS b 7 xs)):
  Calls prog 53 #[VG gs j,.agg cs.toArray] w (XR w xs):=by
 obtain⟨K,L⟩:=E;have D:(prog.info? 38).map (·.size)=some cs.length:=by rw[H];exact yw
 have s:∀b,Below w.heap.size w b->Calls prog 93 (#[.agg cs.toArray]++ #[]) b (zS b 7 xs):=fun b _=>J b;have n:∀b gl q,7<=q->q<=maxLen->Below w.heap.size w b->b.rangeAt gl 0 (ints xs)->Calls prog 167 (#[.slice (some ⟨gl,0,none⟩) 7 q]++ #[.pointer (some ⟨j,0,none⟩)]) b fun e M=>e=.returned (.bool (mayS xs))/\Below b.heap.size b M:=fun b gl q N Q R T=>
  Xx xs hxl N Q (L.below R) T
 cases p:mayS xs with
 |false=>
  rw[p]at n;exact(zac (w:=w) 1 xs 7 gs 7 93 167 #[] #[.pointer (some ⟨j,0,none⟩)] (.func (.func 95) #[] #[]) rfl cs D (fun _ _=>rfl) (fun _ _=>rfl) s n).mono
   (fun e w' ⟨v,A⟩=>⟨.inr ⟨p,v⟩,A⟩)
 |true=>
  rw[p]at n;obtain⟨U,V⟩:=Zd hxl p;have e:numsL (numL szS xs)=xs:=tB jG U;rw[<-e]at s n;exact(Sy (w:=w) 1 de (numL szS xs) V 7 (by rw[qU jG];rfl) de gs 7 93 167 #[] #[.pointer (some ⟨j,0,none⟩)] (.func (.func 95) #[] #[]) rfl cs D (by rw[Xl jG];exact K) G (fun _ _=>rfl) (fun _ _=>rfl) s n).mono
   (fun e w' ⟨v,A⟩=>⟨.inl ⟨p,v⟩,A⟩)
namespace fFormS2
abbrev n14f:Nat:=38
theorem zar:type_of% @yw:= @yw
abbrev d16f:= @mayS
theorem zcM:type_of% @func24:= @func24
theorem zcN:type_of% @ntmps24:= @ntmps24
theorem zcO:type_of% @underlying38:= @underlying38
theorem zcP:type_of% @wO:= @wO
theorem zcQ:type_of% @XS:= @XS
abbrev zcR:= @sectS
theorem zcS:type_of% @tJ:= @tJ
end fFormS2
open fFormS2 in
theorem Jp(hN:Nib w)(cs:List Value)(hcs:cs.length=7)(xs:List Int)(hxl:xs.length=7)
  (htell:∀W,Calls prog 93 #[.agg cs.toArray] W (zS W 7 xs)):
  Calls prog 24 #[.agg cs.toArray] w (XR w xs):=wJ
def dsS(xs:List Int):List Value:=[.int .i64 (xs.getD 0 0),.int .i64 (xs.getD 1 0),.int .i64 (xs.getD 2 0),.int .i64 (xs.getD 3 0),.int .i64 (xs.getD 4 0),.int .i64 (xs.getD 5 0),.int .i64 (xs.getD 6 0)]
theorem qE(xs:List Int):(dsS xs).length=7:=rfl
theorem qF(xs:List Int):∀b∈dsS xs,b.oneCell'=true:=by
 intro b h;simp only[dsS,qzm,qzy,qYv]at h;rcases h with rfl|rfl|rfl|rfl|rfl|rfl|rfl<;>rfl
theorem zdt{gl ol cl:Nat}(xs:List Int)(j:xs.length=7)(hx:w.rangeAt gl ol (ints xs)):
  Calls prog 95 (#[.slice (some ⟨gl,ol,none⟩) 7 cl]++ #[]) w fun e w'=>e=.returned (.agg (dsS xs).toArray)/\Below w.heap.size w w':=by
 have b:=yx hx 0 oM;have G:=yx hx 1 oM;have H:=yx hx 2 oM;have J:=yx hx 3 oM;have K:=yx hx 4 oM;have L:=yx hx 5 oM;have M:=yx hx 6 oM;rw[qXm]at b;have hlt:gl<w.heap.size:=qYh w _ b;have n:Hid (dsS xs=[.int .i64 (xs.getD 0 0),.int .i64 (xs.getD 1 0),.int .i64 (xs.getD 2 0),.int .i64 (xs.getD 3 0),.int .i64 (xs.getD 4 0),.int .i64 (xs.getD 5 0),.int .i64 (xs.getD 6 0)]):=rfl;generalize xs.getD 0 0=p at*;generalize xs.getD 1 0=q at*;generalize xs.getD 2 0=s at*;generalize xs.getD 3 0=v at*;generalize xs.getD 4 0=A at*;generalize xs.getD 5 0=D at*;generalize xs.getD 6 0=E at*;clear hx j;go_enter func95,ntmps95
 go_wp2
 go_region
 go_wp2
 exact qYq (zq rfl _ _ w.heap.size 0 [.int .i64 p,.int .i64 q,.int .i64 s,.int .i64 v,.int .i64 A,.int .i64 D,.int .i64 E] _ rfl ((qYk ..).2 (zf (zc w _ rfl))) underlying38 rfl yw) rfl
  ⟨by rw[n.out],zN ((qxl _ w).alloc (qXp _) _) 1⟩
theorem zfs(b j n p q s v:Int)(w:World):Calls prog 93 #[.agg #[.int .i64 b,.int .i64 j,.int .i64 n,.int .i64 p,.int .i64 q,.int .i64 s,.int .i64 v]] w (zS w 7 [b,j,n,p,q,s,v]):=by
 go_enter func93,ntmps93
 go_wp2
 go_ret
 exact⟨w.heap.size+1,7,rfl,qXp _,by unfold maxLen;omega,zf (zc _ _ oe),((qxl _ w).alloc (qXp _) _).alloc oe _⟩
end Go.Proofs.YtbnpkobbnjihjaaGreatDoor
