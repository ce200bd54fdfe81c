/- Locks of which -/
import Derived.Test.YtbnpkobbnjihjaaGreatDoorG06
import Derived.Test.YtbnpkobbnjihjaaGreatDoorG05
import Derived.Test.YtbnpkobbnjihjaaGreatDoorG07
set_option maxRecDepth 100000
set_option maxHeartbeats 16000000
namespace Go.Proofs.YtbnpkobbnjihjaaGreatDoor
open Go Go.RowKit Tryz
variable{w W:World}{K G l xs:List Int}{few most b g N o n p i:Nat}{A fm:Int->Bool}{v vk:Value}{S:Nat->Prop}{f:Int}
def noE(e:Empty):Value:=nomatch e
def vj(w:World)(lb mb bl:Nat):Prop:=w.heap[lb]?=some (.cells #[.int .i64 (bl:Int),.map (some mb)] 150 (0,0))/\MapG noE w mb 0 (fun _=>none)
abbrev ut(f n:Int):Value:=.agg #[.int .i64 f,.int .i64 n]
theorem zV:(prog.info? 50).map (·.size)=some 2:=kR
section
variable{w w':World}{lb mb bl:Nat}
theorem vj.keep(h:vj w lb mb bl)(j:Upd S w w')(h1:¬S lb)(h2:¬S mb):vj w' lb mb bl:=⟨(j.block lb (zd h.1) h1).trans h.1,h.2.keep j h2⟩
theorem vj.new(h:vj w lb mb bl)(j:Upd (fun _=>False) w w'):vj w' lb mb bl:=h.keep j id id
theorem zcH(bl:Nat)(h1:1<=bl)(h2:bl<=4096)(w:World):Calls prog 37 #[.int .i64 (bl:Int)] w
  fun e w'=>∃lb mb,e=.returned (.tuple #[.pointer (some ⟨lb,0,none⟩),.int .i64 0])/\vj w' lb mb bl/\w.heap.size<=lb/\w.heap.size<=mb/\Below w.heap.size w w':=by
 have j:= @run_makeMap prog;have q1:¬(bl:Int)<1:=oM;have q2:¬(bl:Int)>4096:=oM;go_enter func37,ntmps37
 go_wp2
 go_ret2
 refine⟨w.heap.size+1,rfl,w.heap.size,⟨zc _ _ oe,(MapG.made w).keep ((uur (fun _=>False) _).alloc _) id⟩,oM,oM,((qxl _ w).alloc (qXp _) _).alloc oe _⟩
def inS(bl:Nat)(f n:Int):Prop:=0<=f/\1<=n/\n<=bl/\f<=bl-n
theorem UR(h:vj w lb mb bl)(f n:Int):Calls prog 138 #[.pointer (some ⟨lb,0,none⟩),ut f n] w fun e w'=>e=.returned (.int .i64 0)/\Below w.heap.size w w':=by
 obtain⟨w1,q⟩:=qqe (w.alloc (.cells #[.int .i64 f,.int .i64 n] 50));have j:=qqu q;have c1:w1.cell? ⟨lb,1,none⟩=some (.map (some mb)):=by rw[za (h.new j).1];rfl
 have F:=qqh (h.new j).2;have D:=Y2 q j;clear q j;go_enter func138,ntmps138
 go_upto_region 1 with fail
 rw[<-D.o.1];go_wp2_with (first
  |(at_range;refine xB rfl _ 148 rfl underlying148 rfl F.o ?_;intro H s E J;refine Stop.i ?_)
  |fail)
 obtain⟨Q,R,s⟩:=s;have L:=qqh (D.o.2.trans E);clear E J c1;unfold Stop;go_wp2_with fail
 go_loopg[] 0 (fun gk wr=>wr=H)
 case atStart=>rfl
 case round=>
  have M:=hrel;subst M;go_wp2_with (first
   |(at_next;refine xO rfl _ rfl rfl s (fun T=>Stop.i ?_) (fun x U V O X Y Z a6 a7=>absurd O oe))
   |fail)
  unfold Stop;go_wp2
  go_ret
  exact⟨rfl,L.o.below⟩
theorem SJ(h:vj w lb mb bl)(U:bl<=4096){n:Int}(M:inS bl f n):Calls prog 137 #[.pointer (some ⟨lb,0,none⟩),ut f n] w fun e w'=>e=.returned (.int .i64 0)/\Below w.heap.size w w':=by
 obtain⟨m,s⟩:=qqe (w.heap.size);obtain⟨w1,q⟩:=qqe (w.alloc (.cells #[.int .i64 f,.int .i64 n] 50));have D:=qqu q;have E:w1.heap[m]?=some (.cells #[.int .i64 f,.int .i64 n] 50 (0,0)):=by rw[q,s];exact zc w _ rfl
 have V:w1.cell? ⟨m,0,none⟩=some (.int .i64 f):=za E 0;have c1:w1.cell? ⟨m,1,none⟩=some (.int .i64 n):=za E 1;have c2:w1.cell? ⟨lb,0,none⟩=some (.int .i64 (bl:Int)):=za (h.new D).1 0;obtain⟨O,Q,R,T⟩:=M;have q1:¬f<0:=oM;have q2:¬n<1:=oM;have X:¬n>(bl:Int):=oM;have Y:IntKind.i64.wrap ((bl:Int)-n)=(bl:Int)-n:=qxt _ oM;have Z:¬f>(bl:Int)-n:=oM;have F:=Y3 q D s;clear h q D s E O Q R T;go_enter func137,ntmps137
 go_upto_region 1 with fail
 rw[<-F.o.1,<-F.o.2.2];refine qZd (S:=fun W=>W.cell? ⟨m,0,none⟩=some (.int .i64 f)/\W.cell? ⟨m,1,none⟩=some (.int .i64 n)/\W.cell? ⟨lb,0,none⟩=some (.int .i64 (bl:Int))) kR (⟨by rw[qYi];assumption,by rw[qYi];assumption,by rw[qYi];assumption⟩) (fun H=>?_);refine Wl.i [0,1,2,3,4,5,6] ?_;iterate 7 refine Wl.t H ?_
 refine Wl.o ?_;refine Wl.r 7 (fun K j=>?_);go_simp
 refine j.o _ _ (H) (fun J=>?_);clear j K;refine Wl.i [8,9,10,11,12,13,14,15] ?_;iterate 8 refine Wl.t J ?_
 refine Wl.o ?_;refine Wl.r 16 (fun K j=>?_);go_simp
 refine j.o _ _ (J) (fun L=>?_);clear j K;refine Wl.i [17,18,19,20,21,22,23,24,25,26,27] ?_;iterate 11 refine Wl.t L ?_
 refine Wl.o ?_;refine Wl.r 28 (fun K j=>?_);go_simp
 refine j.o _ _ (L) (fun a6=>?_);clear j K;refine Wl.d ?_;go_wp2
 go_ret
 exact⟨rfl,F.o.2.1.drew.below⟩
theorem zam(h:vj w lb mb bl)(Q:bl<=4096){n:Int}(R:inS bl f n):Calls prog 216 #[.pointer (some ⟨lb,0,none⟩),ut f n] w fun e w'=>e=.returned (.int .i64 0)/\Below w.heap.size w w':=by
 obtain⟨m,s⟩:=qqe (w.heap.size);obtain⟨w1,q⟩:=qqe (w.alloc (.cells #[.int .i64 f,.int .i64 n] 50));have D:=qqu q;have E:w1.heap[m]?=some (.cells #[.int .i64 f,.int .i64 n] 50 (0,0)):=by rw[q,s];exact zc w _ rfl
 have H:=zf E;have T:=qqh (SJ (h.new D) Q R);have j:=Y5 q D s h E;have J:=zV;clear h q D s E;go_enter func216,ntmps216
 go_upto_region 1 with fail
 rw[<-j.o.1,<-j.o.2.2.1];go_wp2_with (first
  |(refine qZa rfl _ _ rfl _ _ rfl _ _ H underlying50 rfl J ?_)
  |fail)
 refine T.o.mono ?_;rintro e X ⟨rfl,L⟩;have F:=qqb L;have M:=zf (F.jV j.o.2.2.2.2);have O:=qqh (j.o.2.1.trans F);have U:=qqh (UR (j.o.2.2.2.1.new O.o) f n);clear L F H;go_wp2_with (first
  |(refine qZa rfl _ _ rfl _ _ rfl _ _ M underlying50 rfl J ?_)
  |fail)
 refine U.o.mono ?_;rintro e Y ⟨rfl,P⟩;have V:=qqh (O.o.trans (uuo P));clear P M;go_wp2
 go_ret
 exact⟨rfl,V.o.below⟩
theorem Qn(h:vj w lb mb bl)(k:Int):Calls prog 213 #[.pointer (some ⟨lb,0,none⟩),.int .i64 k] w fun e w'=>e=.returned (.tuple #[.int .i64 0,.bool false])/\Below w.heap.size w w':=by
 have c1:w.cell? ⟨lb,1,none⟩=some (.map (some mb)):=by rw[za h.1];rfl
 have s:=qqh h.2;go_enter func213,ntmps213
 go_wp2
 go_step3
 go_wp2
 go_step3
 go_wp2_with (first
  |(at_range;refine xB rfl _ 148 rfl underlying148 rfl s.o ?_;intro D j q E;refine Stop.i ?_)
  |fail)
 obtain⟨O,Q,j⟩:=j;have F:=qqh q;clear q E c1;unfold Stop;go_wp2_with fail
 go_loopg[6,7] 0 (fun gk H J wr=>H=.int .i64 0/\J=.bool false/\wr=D)
 case atStart=>exact⟨rfl,rfl,rfl⟩
 case round=>
  obtain⟨rfl,rfl,L⟩:=hrel;subst L;go_wp2_with (first
   |(at_next;refine xO rfl _ rfl rfl j (fun R=>Stop.i ?_) (fun x T U M V X Y Z a6=>absurd M oe))
   |fail)
  unfold Stop;go_wp2
  rw[qxq];go_ret2
  exact⟨rfl,F.o.below⟩
end
theorem SK(w:World):Calls prog 317 #[.int .u64 1] w fun e w'=>∃k:Int,e=.returned (.int .i64 k)/\w'=w:=by
 go_enter func317,ntmps317
 go_wp2
 go_ret
 exact⟨_,rfl,rfl⟩
theorem zfd(w:World):Calls prog 241 #[.int .u64 1] w fun e w'=>∃k:Int,e=.returned (.int .i64 k)/\w'=w:=by
 have j:=qqh (SK w);go_enter func241,ntmps241
 go_wp2_with fail
 refine j.o.mono ?_;rintro e w' ⟨k,rfl,rfl⟩;go_wp2
 go_ret
 exact⟨_,rfl,rfl⟩
theorem SL(ao:Option Addr)(k:Nat)(c:Value)(w:World):Calls prog 335 #[.slice ao 1 k,.int .i64 0,.int .i64 1,c] w fun e w'=>e=.returned (.tuple #[])/\w'=w:=by
 go_enter func335,ntmps335
 go_wp2
 go_loopg[8] 0 (fun g j wr=>j=.int .i64 1/\wr=w)
 case atStart=>exact⟨rfl,rfl⟩
 case round=>
  obtain⟨rfl,rfl⟩:=hrel;go_wp2
  go_end0
  exact⟨rfl,rfl⟩
theorem SM(ao:Option Addr)(k:Nat)(c:Value)(l:Int)(w:World):Calls prog 271 #[.slice ao 1 k,.int .i64 0,.int .i64 1,.int .i64 l,c] w fun e w'=>e=.returned (.tuple #[])/\w'=w:=by
 go_enter func271,ntmps271
 go_wp2
 go_loopg[1,2,3,10,11] 0 (fun g j q s D E wr=>j=.int .i64 0/\q=.int .i64 1/\wr=w)
 case atStart=>exact⟨rfl,rfl,rfl⟩
 case round=>
  obtain⟨rfl,rfl,rfl⟩:=hrel;go_wp2_with (first|(go_at_call 335;refine(SL ao k c _).mono ?_;rintro e w' ⟨rfl,rfl⟩)|fail)
  exact qYq (qYw rfl _ _ _) rfl ⟨rfl,rfl⟩
theorem Qo(ao:Option Addr)(k:Nat)(c:Value)(w:World):Calls prog 210 #[.slice ao 1 k,c] w fun e w'=>e=.returned (.tuple #[])/\w'=w:=by
 have q:=qqh (zfd w);go_enter func210,ntmps210
 go_wp2_with fail
 refine q.o.mono ?_;rintro e w' ⟨l,rfl,j⟩;rw[j];clear j q;have s:=qqh (SM ao k c l w);go_wp2_with fail
 refine s.o.mono ?_;rintro e w' ⟨rfl,j⟩;rw[j];go_wp2
 go_end0
 exact⟨rfl,rfl⟩
theorem zcI{n:Int}(h1:0<=f)(h2:0<=n)(j:f+n<=1048576)(w:World):Calls prog 208 #[ut f n] w fun e w'=>e=.returned (.bool true)/\Below w.heap.size w w':=by
 have q1:f>=0:=h1;have q2:n>=0:=h2;have q:n<=1048576:=oM;have s:IntKind.i64.wrap (1048576-n)=1048576-n:=qxt _ oM;have D:f<=1048576-n:=oM;go_enter func208,ntmps208
 go_wp2
 go_ret
 exact⟨rfl,(qxl _ w).alloc (qXp _) _⟩
def bndR:List (Int×Int):=[(1,1099511627776),(0,1099511627776),(0,1),(0,4095),(0,1023),(0,1),(0,4294967295)]
def mayR(xs:List Int):Bool:=withinB bndR xs&&(decide (xs.getD 2 0=0)||(decide (xs.getD 4 0=0)&&decide (xs.getD 5 0=0)&&decide (xs.getD 6 0=0)))
theorem yx(q:w.rangeAt g o (ints xs))(i:Nat)(j:i<xs.length):w.cell? ⟨g,o+i,none⟩=some (.int .i64 (xs.getD i 0)):=by
 rw[yq q (i:=i) j];simp[List.getD_eq_getElem?_getD,j]
theorem rD{w:World}{gl ol cl O:Nat}{v:Value}(xs:List Int)(Q:xs.length=7)(_hcl:7<=cl)(_hcm:cl<=maxLen)(ae:w.cell? ⟨O,0,none⟩=some v)(Z:Bnd w v bndR)(hx:w.rangeAt gl ol (ints xs)):
  Calls prog 306 #[.slice (some ⟨gl,ol,none⟩) 7 cl,.pointer (some ⟨O,0,none⟩)] w fun e w'=>e=.returned (.bool (mayR xs))/\Below w.heap.size w w':=by
 obtain⟨g,h,af,rfl,R,T⟩:=Z;have a6:=qqh (yt (cl:=cl) bndR xs R T hx Q (by show 7<=7;decide) de);have j:Hid (mayR xs=(withinB bndR xs&&(decide (xs.getD 2 0=0)||(decide (xs.getD 4 0=0)&&decide (xs.getD 5 0=0)&&decide (xs.getD 6 0=0))))):=rfl;have q:=Y4 (yx hx 2 oM) (yx hx 4 oM) (yx hx 5 oM) (yx hx 6 oM);generalize xs.getD 2 0=U at j q;generalize xs.getD 4 0=V at j q;generalize xs.getD 5 0=X at j q;generalize xs.getD 6 0=a7 at j q;clear hx T R Q;go_enter func306,ntmps306
 go_wp2_with fail
 refine a6.o.mono ?_;rintro e w' ⟨rfl,J⟩;have s:=uuo (S:=fun _=>False) J;have c2:=s.jU q.o.1 id;have Y:=s.jU q.o.2.1 id;have L:=s.jU q.o.2.2.1 id;have E:=s.jU q.o.2.2.2 id;have D:=qqh J;clear s J;generalize withinB bndR xs=a8 at j⊢;cases a8 with
 |false=>
  clear c2 Y L E;go_wp2
  go_ret
  exact⟨by rw[j.o];rfl,D.o⟩
 |true=>
  by_cases h2:U=0
  .subst h2;clear Y L E;go_wp2
   go_ret
   exact⟨by rw[j.o];rfl,D.o⟩
  .have q2:(U==0)=false:=by simpa using h2
   have M:=qqh h2;clear h2;by_cases F:V=0
   .subst F;by_cases H:X=0
    .subst H;go_wp2
     go_ret
     refine⟨?_,D.o⟩;rw[j.o];simp[M.o];by_cases aa:a7=0<;>simp[aa]
    .have ag:(X==0)=false:=by simpa using H
     have ab:=qqh H;clear H E;go_wp2
     go_ret
     refine⟨?_,D.o⟩;rw[j.o];simp[M.o,ab.o]
   .have ah:(V==0)=false:=by simpa using F
    have ad:=qqh F;clear F L E;go_wp2
    go_ret
    refine⟨?_,D.o⟩;rw[j.o];simp[M.o,ad.o]
theorem zJ{B:List (Int×Int)}(h:withinB B xs=true)(h1:i<B.length)(h2:i<xs.length):B[i].1<=xs[i]/\xs[i]<=B[i].2:=by
 have h:=qxu.1 h (B[i],xs[i]) (List.mem_iff_getElem.2 ⟨i,by simp;omega,oe⟩);simpa[inB]using h
theorem Zc{xs:List Int}(hx:xs.length=7)(h:mayR xs=true):(∀x∈xs,0<=x)/\qS (numL [6,6,1,2,2,1,4] xs):=by
 simp only[mayR,qxo]at h;obtain⟨h1,-⟩:=h;have a0:=zJ h1 (i:=0) de oM;have a1:=zJ h1 (i:=1) de oM;have a2:=zJ h1 (i:=2) de oM;have a3:=zJ h1 (i:=3) de oM;have a4:=zJ h1 (i:=4) de oM;have a5:=zJ h1 (i:=5) de oM;have s:=zJ h1 (i:=6) de oM;simp[bndR]at a0 a1 a2 a3 a4 a5 s;have q:∀i (h1:i<xs.length) (h2:i<[6,6,1,2,2,1,4].length),0<=xs[i]/\xs[i]<256^[6,6,1,2,2,1,4][i]:=by
  intro i j D;rcases i with _|_|_|_|_|_|_|i
  all_goals first|(simp at D;omega)|(simp;omega)
 refine⟨fun x E=>?_,tC (by rw[hx];rfl) de de q⟩;obtain⟨i,j,rfl⟩:=qyv E;exact(q i j (by rw[hx]at j;exact j)).1
namespace EvG
abbrev mayV(xv:Value):Value:=.func (.func 419) #[xv] #[]
def MayIs(xv:Value)(fm:Int->Bool)(w0:World):Prop:=∀(W:World) (k:Int),InR k->Upd (fun _=>False) w0 W->Calls prog 419 #[xv,.int .i64 k] W fun e w'=>e=.returned (.bool (fm k))/\Below W.heap.size W w'
theorem SN{s:Value}{D:World}(F:MayIs s fm D)(k:Int)(H:InR k)(w:World)(J:Upd (fun _=>False) D w)(g:Nat)(q:w.cell? ⟨g,0,none⟩=some (mayV s)):
  Calls prog 435 #[.int .i64 k,.pointer (some ⟨g,0,none⟩)] w fun e w'=>e=.returned (.bool (fm k))/\Below w.heap.size w w':=by
 have Q:=qqf;have hlt:=(zH q).2;have R:=(((uur (fun _=>False) w).alloc (.cells #[.bool false] 4)).cellAt hlt id).trans q;clear q
 go_enter_defers func435,ntmps435
 go_wp2_with fail
 refine(F _ k H (J.alloc _)).mono ?_;rintro e w1 ⟨rfl,j⟩;have L:=j.size;simp at L;have E:=(j.block w.heap.size oe).trans (zc w (.cells #[.bool false] 4) rfl);have M:=qqh (za (zh E 0 (.bool (fm k))) 0);have c1:=(j.cell (p:=⟨w.heap.size,0,none⟩) oe).trans (za (zc w (.cells #[.bool false] 4) rfl) 0);have T:=(j.frozen (p:=⟨w.heap.size,0,none⟩) oe).trans (zg (zc w (.cells #[.bool false] 4) rfl) 0);simp at c1;have O:Hid (Below w.heap.size w w1):=zj ((qxl _ _).alloc (qXp _) _) (uuo (S:=fun _=>False) j) (qXp _) (fun _ h=>h.elim);clear j E;go_wp2
 refine leaves_cons (f:=436) (args:= #[.pointer (some ⟨w.heap.size,0,none⟩)]) oe jN ?_;refine(WZ _ _).mono ?_;rintro e U V ⟨rfl,rfl,rfl⟩;simp[Leaves,settle,results,results435,go_sem];have c2:=M.out;simp at c2;rw[c2];exact⟨_,rfl,rfl,O.o.setCell (p:=⟨w.heap.size,0,none⟩) (qXp _) _⟩
def trimG(few:Nat)(L:List Int):List Int:=if few<L.length then L.tail else L
def restK(K:List Int)(i:Nat):List Int:=K.drop (i+1)++K.take i
structure EvYes(fm:Int->Bool)(few:Nat)(K:List Int)(A:Int->Bool)(G:List Int)(key:Int)(K':List Int)(A':Int->Bool)(G':List Int):Prop where
 ex:∃i,∃h:i<K.length,key=K[i]/\K'=restK K i/\((∀x,K.head?=some x->fm x=true/\A x=false)->i=0/\A'=A)/\((i=0/\A'=A)\/1<=i\/∀x∈K,fm x=false\/A x=true)/\∀j (hj:j<K.length),j<i->fm K[j]=true->A' K[j]=false
 gh:G'=trimG few (G++[key])
 out:A' key=false
 sub:∀x,A' x=true->A x=true
def evGo(fm:Int->Bool)(K:List Int):Nat->Nat->(Int->Bool)->Option (Nat×(Int->Bool))
 |0,_,_=>none
 |g+1,h,A=>if fm (K.getD (h%K.length) 0)=false then evGo fm K g (h+1) A else if A (K.getD (h%K.length) 0)=true then evGo fm K g (h+1) (updB A (K.getD (h%K.length) 0) false)else some (h%K.length,A)
def evR(fm:Int->Bool)(few:Nat)(K:List Int)(A:Int->Bool)(G:List Int):Int×Int×List Int×(Int->Bool)×List Int:=
 match evGo fm K (2*K.length) 0 A with
 |none=>(0,14,K,A,G)
 |some (p,A')=>(K.getD p 0,0,restK K p,A',trimG few (G++[K.getD p 0]))
section
variable{fm:Int->Bool}{K:List Int}{A:Int->Bool}{g h p:Nat}{k:Int}{hp:p<K.length}
theorem Qq(E:1<=g)(j:k=K[p])(q:p=h%K.length)(s:fm k=false):evGo fm K g h A=evGo fm K (g-1) (h+1) A:=by
 obtain⟨g,rfl⟩:∃D,g=D+1:=⟨g-1,oM⟩
 have e:K.getD (h%K.length) 0=k:=by rw[<-q,j];simp[hp]
 simp only[evGo,e,s,if_true,Nat.add_sub_cancel]
theorem SO(F:1<=g)(j:k=K[p])(q:p=h%K.length)(s:fm k=true)(D:A k=true):evGo fm K g h A=evGo fm K (g-1) (h+1) (updB A k false):=by
 obtain⟨g,rfl⟩:∃E,g=E+1:=⟨g-1,oM⟩
 have e:K.getD (h%K.length) 0=k:=by rw[<-q,j];simp[hp]
 simp only[evGo,e,s,D,if_true,Nat.add_sub_cancel];simp
theorem SP(F:1<=g)(q:k=K[p])(j:p=h%K.length)(s:fm k=true)(D:A k=false):evGo fm K g h A=some (p,A):=by
 obtain⟨g,rfl⟩:∃E,g=E+1:=⟨g-1,oM⟩
 have e:K.getD (h%K.length) 0=k:=by rw[<-j,q];simp[hp]
 simp only[evGo,e,s,D];simp[j]
end
def EvOut(fm:Int->Bool)(few:Nat)(K:List Int)(A:Int->Bool)(G:List Int)(key code:Int)(K':List Int)(A':Int->Bool)(G':List Int):Prop:=
 ((code=14/\key=0/\K'=K/\A'=A/\G'=G/\∀x∈K,fm x=false\/A x=true)\/(code=0/\EvYes fm few K A G key K' A' G'))/\evR fm few K A G=(key,code,K',A',G')
theorem restK_perm(h:i<K.length):(K[i]::restK K i).Perm K:=by
 unfold restK;have e:K=K.take i++K[i]::K.drop (i+1):=oe;have h1:(K[i]::(K.drop (i+1)++K.take i)).Perm (K.take i++K[i]::K.drop (i+1)):=by
  exact List.perm_append_comm (l₁:=K[i]::K.drop (i+1)) (l₂:=K.take i)
 rw[<-e]at h1;exact h1
theorem Qr(h:i<K.length):(restK K i).length+1=K.length:=by
 have:=(restK_perm h).length_eq;simpa using this
theorem Qs(few:Nat)(L:List Int)(h:L.length<=few+1):(trimG few L).length<=few:=by
 unfold trimG;split
 .rw [List.length_tail];omega
 .omega
theorem trimG_mem{L:List Int}{x:Int}(h:x∈trimG few L):x∈L:=by
 unfold trimG at h;split at h
 .exact List.mem_of_mem_tail h
 .exact h
theorem Xv{L:List Int}(h:L.Nodup):(trimG few L).Nodup:=by
 unfold trimG;split
 .exact h.sublist (List.tail_sublist L)
 .exact h
theorem CkGood.evict{K' q:List Int}{s:Int->Bool}{F:Int}(h:CkGood most few K A G)(hy:EvYes fm few K A G F K' s q):CkGood most few K' s q:=by
 obtain⟨i,j,rfl,rfl,_,_,_⟩:=hy.ex;have hp:=restK_perm j;have D:(K[i]::restK K i).Nodup:=hp.nodup_iff.2 h.kd;have E:∀x,x∈restK K i->x∈K:=fun x hx=>hp.mem_iff.1 (qzn _ hx);have L:=Qr j;have H:=hy.gh;subst H;exact{
  kr:=fun x hx=>h.kr x (E x hx)
  gr:=fun x hx=>by
   rcases qzl.1 (trimG_mem hx)with h1|h1
   .exact h.gr x h1
   .simp at h1;exact h1▸h.kr _ (qyu j)
  kd:=(qzw.1 D).2
  gd:=Xv (by
   rw[qzv];refine⟨h.gd,oe,fun x hx y hy e=>?_⟩;simp at hy;subst hy;subst e;exact h.dis _ (qyu j) hx)
  dis:=fun x hx J=>by
   rcases qzl.1 (trimG_mem J)with h1|h1
   .exact h.dis x (E x hx) h1
   .simp at h1;subst h1;exact(qzw.1 D).1 hx
  ask:=fun x hx=>by
   have h1:=h.ask x (hy.sub x hx);rcases qzm.1 (hp.mem_iff.2 h1)with h2|h2
   .subst h2;rw[hy.out]at hx;cases hx
   .exact h2
  kl:=by have:=h.kl;omega
  gl:=Qs _ _ (by have:=h.gl;simp;omega)
  ml:=h.ml
  fl:=h.fl
  m1:=h.m1}
theorem EvOut.good{K' j:List Int}{q:Int->Bool}{s D:Int}(h:CkGood most few K A G)(E:EvOut fm few K A G s D K' q j):CkGood most few K' q j:=by
 rcases E with⟨⟨_,_,rfl,rfl,rfl,_⟩|⟨_,hy⟩,-⟩
 .exact h
 .exact CkGood.evict h hy
theorem Qt(h:Sl w 3 1 v l.length (ints l))(q:l.length<=4096)(s:0<l.length):
  Calls prog 251 #[v,.int .i64 0,.int .i64 1] w fun e w'=>∃j n c,e=.returned (.slice j n c)/\(Value.slice j n c).ownBlock=v.ownBlock/\Sl w' 3 1 (.slice j n c) l.tail.length (ints l.tail)/\Upd (ownS v) w w':=by
 have:=ZR h q s;rw[List.eraseIdx_zero]at this;refine this.mono ?_;rintro e w' ⟨E,rfl,h1,h2,D⟩;obtain⟨j,c,rfl⟩:=h2.rd.jW;exact⟨j,_,c,rfl,h1,h2,D⟩
theorem US{c:Nat}{q:Array Value}{e:TypeId}(F:w.heap[g]?=some (.cells q e (0,0)))(H:∀j u,(ints l)[j]?=some u->q[o+j]?=some u)(Q:l.length<=maxLen)(A:Addr)(i:Nat)(s:(if c=i then some (⟨g,o,none⟩:Addr)else some ⟨g,o+i,none⟩)=some A)(J:n=l.length-i)(L:c=i->l.length<=i)(D:Nat):
  Rd w 1 (.slice (some A) n D) (l.drop i).length (ints (l.drop i)):=by
 subst J;refine⟨oe,by rw[qza];omega,some A,D,by rw[qza],(fun h=>by cases h),fun b M j u O=>?_⟩;cases M;have E:(ints l)[i+j]?=some u:=by simpa[ints,List.getElem?_drop]using O
 by_cases h:c=i
 .have:=(qyl.1 E).1;rw[xl]at this;have:=L h;omega
 .rw [if_neg h]at s;cases s;rw[qxa,za F,qXl];exact H _ _ E
theorem zan{q:Array Value}{e:TypeId}(F:w.heap[g]?=some (.cells q e (0,0)))(H:∀j u,(ints l)[j]?=some u->q[o+j]?=some u)(M:l.length<=maxLen)(i:Nat)(O:i<=l.length)(s:Nat):
  Rd w 1 (.slice (some ⟨g,o,none⟩) i s) (l.take i).length (ints (l.take i)):=by
 have hlt:(l.take i).length=i:=by rw[qzf];omega
 refine⟨oe,by rw[hlt];omega,some ⟨g,o,none⟩,s,by rw[hlt],(fun h=>by cases h),fun b J j u D=>?_⟩;cases J;have E:=(qyl.1 D).1;rw[xl,hlt]at E;have L:(ints l)[j]?=some u:=by
  rw[<-D];simp[ints,E]
 rw[qxa,za F];exact H _ _ L
theorem SQ{mb:Nat}{ab:Value}(h:CkAt w b mb N vk ab most few K A G)(T:Value)(fm:Int->Bool)(cp:MayIs T fm w):
  Calls prog 418 #[.pointer (some ⟨b,0,none⟩),mayV T] w fun e w'=>∃bh bi bj bk bn bo bp bq,e=.returned (.tuple #[.int .i64 bh,.int .i64 bi])/\
   EvOut fm few K A G bh bi bj bk bn/\CkMem w' b bo N bp bq most few bj bk bn/\(∀j,Sv b bo bp bq j->Sv b mb vk ab j\/w.heap.size<=j)/\Upd (fun j=>j=b) w w':=by
 obtain⟨cq,cr,ay,ct,cu⟩:=qYu vI;have dy:∀w,(binOp .eql 70 (mayV T) .nilFunc).run prog w=.ok (.bool false) w:=fun _=>kR;have dz:=qqf;have br:=qqh h;have dA:=h.blt;have aS:Upd (fun _=>False) w (w.alloc (.cells #[mayV T] 70)).drew:=((uur _ _).alloc _).drew;have Y:=h.keep aS (fun _ _ h=>h);have dB:=h.kle;have dC:=h.gle;have az:Hid (((w.alloc (.cells #[mayV T] 70)).drew.cell? ⟨b,2,none⟩=some vk)/\((w.alloc (.cells #[mayV T] 70)).drew.cell? ⟨b,3,none⟩=some (.map (some mb)))/\
   ((w.alloc (.cells #[mayV T] 70)).drew.cell? ⟨b,4,none⟩=some ab)):=⟨Y.c.2.2.1,Y.c.2.2.2.1,Y.c.2.2.2.2⟩
 have bs:Hid ((w.alloc (.cells #[mayV T] 70)).drew.cell? ⟨w.heap.size,0,none⟩=some (mayV T)):=za (zc w _ rfl) 0;have Y:=qqh Y;have bt:=qqh aS;have cv:=az.out.1;have cx:=az.out.2.1;have cy:=az.out.2.2;clear h aS;go_enter func418,ntmps418
 go_wp2
 refine wp_scope_straight ?_;go_wp2
 go_region_held3 (fun W=>W.cell? ⟨b,2,none⟩=some vk/\W.cell? ⟨b,3,none⟩=some (.map (some mb))/\W.cell? ⟨b,4,none⟩=some ab) (go_keep)
  (first
  |((go_at_call 267;refine(yE Y.o.ks.rd oM).mono ?_;rintro e ah ⟨v3,rfl,aA,bu,ad⟩;have Z:=Y.o.below ad;have cz:=Z.c.2.2.1;have cA:=Z.c.2.2.2.1;have cB:=Z.c.2.2.2.2;have Z:=qqh Z))
  |((go_at_call 437;refine(yW Z.o.set).mono ?_;rintro e dD ⟨rfl,aT,aB⟩;have a6:=Z.o.below aB;have cC:=a6.c.2.2.1;have cD:=a6.c.2.2.2.1;have cE:=a6.c.2.2.2.2;have a6:=qqh a6))
  |((go_at_call 267;refine(yE a6.o.gs.rd oM).mono ?_;rintro e aU ⟨v5,rfl,aV,bv,aC⟩;have a7:=a6.o.below aC;have cF:=a7.c.2.2.1;have cG:=a7.c.2.2.2.1;have cH:=a7.c.2.2.2.2;have a7:=qqh a7)))
 have aD:(w.alloc (.cells #[mayV T] 70)).drew.heap.size=w.heap.size+1:=oe;have aE:Below ah.heap.size ah aU:=aB.trans (aC.mono aB.size);have aF:Hid (Upd (fun _=>False) w aU):=bt.o.trans (uuo (ad.trans (aE.mono ad.size)));have bx:=qqh (aA.keep (uuo (S:=fun _=>False) aE) (fun _ _ h=>h));have aG:=qqh (aT.keep (uuo (S:=fun _=>False) aC) id);have aW:=qqh aV;have bz:=qqh ((aE.cell (p:=⟨w.heap.size,0,none⟩) (by have:=ad.size;simp at this⊢;omega)).trans ((ad.cell (p:=⟨w.heap.size,0,none⟩) oe).trans bs.out));have D:Hid ((∀g,v3.ownBlock=some g->w.heap.size<g/\g<ah.heap.size)/\w.heap.size<ah.heap.size/\(∀g,v5.ownBlock=some g->ah.heap.size<g)):=by
  have:=ad.size;have:=aT.lt;refine⟨fun g E=>⟨?_,aA.lt E⟩,oM,fun g E=>?_⟩
  .have:=bu g E;omega
  .have:=bv g E;omega
 obtain⟨dE,ck,rfl⟩:=aA.rd.jW;obtain⟨bA,cg,rfl⟩:=aV.rd.jW;generalize ai:ah.heap.size=F at*;clear ad aB aC aE aA aV bu bv aT cF cG cH cC cD cE cz cA cB cv cx cy Z a6 Y az bs bt ai aD;go_wp2
 refine wp_label ?_;go_wp2
 go_loopg[12] (2*K.length) (fun g i wr=>∃h:Nat,h+g=2*K.length/\i=.int .i64 h/\∃L,SetAt wr F N L/\(∀x,L x=true->A x=true)/\((h=0->L=A)/\evGo fm K g h L=evGo fm K (2*K.length) 0 A)/\(∀j (q:j<K.length),j<h->(fm K[j]=false\/A K[j]=true)/\(fm K[j]=true->L K[j]=false))/\Upd (fun j=>j=F) aU wr)
 case atStart=>exact⟨0,oM,rfl,A,aG.o,fun _ h=>h,⟨fun _=>rfl,rfl⟩,fun j q h=>oM,uur _ _⟩
 case round=>
  obtain⟨h,dF,rfl,L,bB,bC,ay,aD,bD⟩:=hrel;have s:=Y5 bB bC ay aD bD;clear bB bC ay aD bD;by_cases hlt:h<2*K.length
  .have ap:h%K.length<K.length:=qXu _ oM;obtain⟨p,hp⟩:=qqe (h%K.length);rw[<-hp]at ap;have bE:(h:Int)%(K.length:Int)=(p:Int):=by rw[hp];exact(Int.natCast_emod h K.length).symm
   have V:=qqh hp;clear hp;have aX:=bx.o.keep s.out.2.2.2.2 (fun g E e=>by have:=D.o.1 g E;omega);have dG:=qqh aX;obtain⟨ae,af,dH,cI,cJ,bF⟩:=aX.rd.at oM;cases cI;have bG:=bF p _ (yp ap);have bH:=(s.out.2.2.2.2.cell (p:=⟨w.heap.size,0,none⟩) (zH bz.out).2 (by have:=D.o.2.1;simp;omega)).trans bz.out;have aH:InR K[p]:=a7.o.good.kr _ (qyu ap);obtain⟨k,aY⟩:=qqe (K[p]);rw[<-aY]at bG aH;have ag:=qqh aY;clear aY aX bF;have dI:¬(K.length:Int)=0:=oM;go_wp2_with fail
   refine(SN cp k aH _ (aF.out.new s.out.2.2.2.2 (fun i aI e=>by have:=D.o.2.1;omega)) w.heap.size bH).mono ?_;rintro e dJ ⟨rfl,aZ⟩;have b0:=qqh (s.out.1.keep (uuo (S:=fun _=>False) aZ) id);have bI:=qqh (s.out.2.2.2.2.trans (uuo aZ));clear aZ bG bH cJ;rcases ai:fm k with _|_
   .have aj:=qqh ai;clear ai;go_wp2
    go_roundg (gk-1)
    case measure=>omega
    case rel=>
     refine⟨h+1,oM,by go_num,L,b0.out,s.out.2.1,⟨oM,(Qq oM ag.o V.o aj.o).symm.trans s.out.2.2.1.2⟩,fun j q cK=>?_,bI.o⟩;by_cases U:j<h
     .exact s.out.2.2.2.1 j q U
     .have b1:p=j:=by rw[V.o,show h=j by omega];exact qXt q
      subst b1;rw[<-ag.o];exact⟨.inl aj.o,fun e=>by rw[aj.o]at e;cases e⟩
   .have aj:=qqh ai;clear ai;go_wp2_with fail
    refine(uI b0.out k aH).mono ?_;rintro e O ⟨rfl,b2⟩;have bJ:=qqh (b0.out.keep (uuo (S:=fun _=>False) b2) id);have X:=qqh (bI.o.trans (uuo b2));clear b2;rcases aJ:L k with _|_
    .have aq:=qqh aJ;clear aJ;go_wp2
     simp only[bE];clear bE;have dK:w.heap.size<O.heap.size:=by have:=X.o.size;have:=aF.out.size;have:=D.o.2.1;have:=aG.o.lt;omega
     have cL:=qqh (a7.o.keep X.o (fun j q e=>by subst e;have:=br.o.slt _ q;have:=D.o.2.1;omega));have cM:Sl O 3 1 (.slice (some ⟨ae,af,none⟩) K.length ck) K.length (ints K):=bx.o.keep X.o (fun g E e=>by have:=D.o.1 g E;omega);obtain⟨_,⟨h1,h2⟩|⟨dL,dM,dN,dO,h1,aK,dP,cN,aL,aM⟩⟩:=cM
     .cases h1
     cases h1;obtain⟨ak,cO,cP⟩:∃ak:Addr,(if ck=p+1 then some (⟨ae,af,none⟩:Addr)else some ⟨ae,af+(p+1),none⟩)=some ak/\Hid (∀W,Upd (fun _=>False) O W->Rd W 1 (.slice (some ak) (K.length-(p+1)) (ck-(p+1))) (K.drop (p+1)).length (ints (K.drop (p+1)))):=by
      have bK:K.length<=maxLen:=oM;by_cases e:ck=p+1
      .rw [if_pos e];refine⟨_,rfl,fun W ar=>Rd.keep (US aK aM bK _ (p+1) (if_pos e) rfl (fun _=>oM) _) ar (fun _ _ h=>h)⟩
      .rw [if_neg e];refine⟨_,rfl,fun W ar=>Rd.keep (US aK aM bK _ (p+1) (if_neg e) rfl (fun h=>absurd h e) _) ar (fun _ _ h=>h)⟩
     have cQ:Hid (∀W,Upd (fun _=>False) O W->Rd W 1 (.slice (some ⟨ae,af,none⟩) p ck) (K.take p).length (ints (K.take p))):=fun W ar=>Rd.keep (zan aK aM oM p oM _) ar (fun _ _ h=>h);have b3:Hid (Upd (fun _=>False) O (O.alloc (.cells #[.slice (some ak) (K.length-(p+1)) (ck-(p+1)),.slice (some ⟨ae,af,none⟩) p ck] 77)).drew):=((uur _ _).alloc _).drew;have cR:Hid ((O.alloc (.cells #[.slice (some ak) (K.length-(p+1)) (ck-(p+1)),.slice (some ⟨ae,af,none⟩) p ck] 77)).drew.heap[O.heap.size]?=some (.cells #[.slice (some ak) (K.length-(p+1)) (ck-(p+1)),.slice (some ⟨ae,af,none⟩) p ck] 77 (0,0))):=zc _ _ rfl;have cT:Hid ((K.drop (p+1)).length+(K.take p).length<=4096):=by show(K.drop (p+1)).length+(K.take p).length<=4096;rw[qza,qzf];omega
     have dQ:¬p+1>ck:=oM;have dR:p<=ck:=oM;have dS:p+1<=ck:=oM;have cU:(0:Int)<=(p:Int)+1:=oM;have cV:(p:Int)+1<=(K.length:Int):=oM;have dT:0<=(p:Int)+1/\(p:Int)+1<=(K.length:Int):=⟨cU,cV⟩
     have cW:IntKind.i64.wrap ((p:Int)+1)=(p:Int)+1:=qxt _ oM;have cX:((p:Int)+1).toNat=p+1:=oM;have cY:Hid ((K.drop (p+1)).length+(K.take p).length=(restK K p).length):=by show _=_;unfold restK;rw[qyy]
     have cZ:Hid (ints (K.drop (p+1))++ints (K.take p)=ints (restK K p)):=by show _=_;unfold restK;rw[tR]
     clear aM aK aL cN
     go_region_with (go_at_call 439;refine(Vj cR.out (cP.out _ b3.out) (cQ.out _ b3.out) cT.out).mono ?_;rintro e M ⟨H,rfl,a8,bL,bM⟩;rw[cY.out,cZ.out]at a8;obtain⟨bN,bO,rfl⟩:=a8.rd.jW;have au:=qqh (b3.out.trans (uuo bM));have av:=cL.o.keep au.out (fun _ _ h=>h);have d0:=av.c.2.2.1;have d1:=av.fz 2;have av:=qqh av)
     have bP:O.heap.size<=M.heap.size:=au.out.size;have bQ:∀g,(Value.slice bN (restK K p).length bO).ownBlock=some g->O.heap.size<=g/\g<M.heap.size:=fun g E=>⟨by have:=bL g E;simp at this;omega,a8.lt E⟩
     have bR:=av.o.str;have bS:=aW.o.keep (X.o.trans (au.out.mono fE)) (fun g E e=>by have:=D.o.2.2 g E;omega);have bT:=bJ.out.keep au.out id;obtain⟨H,b4⟩:=qqe (Value.slice bN (restK K p).length bO);have J:=Y6 a8 bQ bR bS bT b4;clear a8 bQ bL bM bS bT bR d0 d1;rw[<-b4];clear b4;have aN:H.ownBlock≠some b:=by rw[J.out.2.2.2.2.2];intro e;have:=(J.out.2.1 b e).1;omega
     have b5:(Value.slice bA G.length cg).ownBlock≠some b:=by intro e;have:=D.o.2.2 b e;have:=D.o.2.1;omega
     have aO:F≠b:=by have:=D.o.2.1;omega
     have aP:=zh J.out.2.2.1 2 H;have bU:=(J.out.2.2.2.2.2▸J.out.1:Sl M 3 1 H (restK K p).length (ints (restK K p))).kA (zi M b 2 H) aN;have bV:=J.out.2.2.2.1.kA (zi M b 2 H) b5;have bW:=J.out.2.2.2.2.1.keep (zi M b 2 H) aO;have bX:Upd (fun j=>j=b) w (M.setCell ⟨b,2,none⟩ H):=
      Upd.trans (Upd.new aF.out (X.o.trans (au.out.mono fE)) (fun i aI e=>by have:=D.o.2.1;omega)|>.mono fE) (zi M b 2 H)
     have aL:M.heap.size=(M.setCell ⟨b,2,none⟩ H).heap.size:=oe;generalize M.setCell ⟨b,2,none⟩ H=aa at*;have bY:=za aP 3;have d2:=zg aP 3;simp at bY;have am:=Y6 aP bU bV bW bX aL;clear aP bU bV bW bX aL;have d3:=qqh (am.out.2.2.1.kA (zi aa b 3 (.map (some F))) b5);have d4:Hid (G.length+1<=maxLen):=by show G.length+1<=maxLen;unfold maxLen;omega
     have d5:Hid ((G.length+1)*8<=140737488355328):=by show _<=_;omega
     have d6:Hid (∀u∈[Value.int .i64 k],u.oneCell'=true):=by intro u bZ;simp at bZ;subst bZ;rfl
     have d7:Hid (Value.slice (some ⟨aa.heap.size,0,none⟩) 1 1=.slice (some ⟨(aa.setCell ⟨b,3,none⟩ (.map (some F))).heap.size,0,none⟩) 1 1):=by show _=_;simp
     go_wp2_with (at_builtin;refine zK rfl (.tmp 82) (.tmp 84) 77 rfl cq (.int .i64 0) 8 underlying77 cr ay ct cu rfl de rfl d3.out [.int .i64 k] d7.out rfl d6.out d4.out d5.out ?_)
     intro dU an b6 aw c0;obtain⟨Q,R,rfl⟩:=b6.rd.jW;have dV:aa.heap.size=(aa.setCell ⟨b,3,none⟩ (.map (some F))).heap.size:=oe;have ax:∀g,(Value.slice Q (G.length+1) R).ownBlock=some g->F<g/\(g<O.heap.size\/M.heap.size<=g):=by
      intro g E;have d8:=aW.o.lt (g:=g);have dW:=X.o.size;rcases c0 with e|⟨dX,e,hge⟩
      .rw [e]at E;exact⟨D.o.2.2 g E,.inl (by have:=d8 E;omega)⟩
      .rw [e]at E;cases E;have:=am.out.2.2.2.2.2;have:=aG.o.lt;exact⟨oM,.inr oM⟩
     have b7:=zh am.out.1 3 (.map (some F));have aQ:=(aw.block b (zd b7) (fun e=>b5 e)).trans b7;have c3:=zh aQ 4 (.slice Q (G.length+1) R);have c4:=za aQ 4;have d9:=zg aQ 4;simp at c4;have c5:Dis H (Value.slice bA G.length cg):=fun g h1 h2=>by
      have:=(J.out.2.1 g (by rw[<-J.out.2.2.2.2.2];exact h1)).1;have:=aW.o.lt h2;have:=X.o.size;omega
     have b8:(Value.slice Q (G.length+1) R).ownBlock≠some b:=fun e=>by have:=(ax b e).1;have:=D.o.2.1;omega
     have c6:=((am.out.2.1.kA (zi aa b 3 (.map (some F))) aN).kB c5 aw).kA (zi an b 4 (.slice Q (G.length+1) R)) aN;have b9:=b6.kA (zi an b 4 (.slice Q (G.length+1) R)) b8;have c7:=((am.out.2.2.2.1.keep (zi aa b 3 (.map (some F))) aO).keep aw (fun e=>by have:=D.o.2.2 F e;omega)).keep (zi an b 4 (.slice Q (G.length+1) R)) aO;have c8:=(((am.out.2.2.2.2.1.trans (zi aa b 3 (.map (some F)))).new aw (fun i aI e=>by have:=D.o.2.2 i e;have:=D.o.2.1;omega))).trans (zi an b 4 (.slice Q (G.length+1) R));have c9:ints G++[.int .i64 k]=ints (G++[k]):=oe;rw[c9]at b9;have cb:CkMem (an.setCell ⟨b,4,none⟩ (.slice Q (G.length+1) R)) b F N H (.slice Q (G.length+1) R) most few (restK K p) L (G++[k]):={
      str:=by simpa using c3
      ks:=c6
      gs:=by simpa using b9
      set:=c7
      kb:=aN
      gb:=b8
      km:=fun e=>by have:=(J.out.2.1 F (by rw[<-J.out.2.2.2.2.2];exact e)).1;have:=aG.o.lt;have:=X.o.size;omega
      gm:=fun e=>by have:=(ax F e).1;omega
      bm:=aO
      kg:=fun g h1 h2=>by
       have dY:=J.out.2.1 g (by rw[<-J.out.2.2.2.2.2];exact h1);have dZ:=(ax g h2).2;omega}
     have ba:=qqh cb;have cc:=qqh c8;clear cb c8 c7 b9 c6 c9 c0 aw b6 b7 aQ c3 b8 c5;go_wp2
     generalize an.setCell ⟨b,4,none⟩ (.slice Q (G.length+1) R)=cd at*;have bb:=ba.o.c;have da:=bb.2.1;have db:=bb.2.2.2.2;clear bb c4 d9 bY d2;have ce:Hid (EvYes fm few K A G k (restK K p) L (trimG few (G++[k]))):=by
      refine⟨⟨p,ap,ag.o,rfl,fun hx=>?_,?_,fun j q e0 e=>(s.out.2.2.2.1 j q (by have:=Nat.mod_le h K.length;rw[<-V.o]at this;omega)).2 e⟩,rfl,aq.o,s.out.2.1⟩
      .by_cases U:h=0
       .refine ⟨?_,s.out.2.2.1.1 U⟩;rw[V.o,U];exact Nat.zero_mod _
       .have dc:K.head?=some K[0]:=by rw[List.head?_eq_getElem?];exact qyj oM
        have h1:=(s.out.2.2.2.1 0 oM oM).1;have h2:=hx _ dc;rw[h2.1,h2.2]at h1;simp at h1
      .by_cases U:h=0
       .exact .inl ⟨by rw[V.o,U];exact Nat.zero_mod _,s.out.2.2.1.1 U⟩
       .right
        by_cases h1:h<K.length
        .left;rw[V.o,qXt h1];omega
        .right
         intro x hx;obtain⟨j,q,rfl⟩:=qyv hx;exact(s.out.2.2.2.1 j q oM).1
     have cf:Hid (evR fm few K A G=(k,0,restK K p,L,trimG few (G++[k]))):=by
      show _=_;have e:K.getD p 0=k:=by rw[ag.o];simp[ap]
      unfold evR;rw[<-s.out.2.2.1.2,SP oM ag.o V.o aj.o aq.o];simp only[e]
     have ch:Hid (∀(bc:Value),(bc.ownBlock=(Value.slice Q (G.length+1) R).ownBlock)->∀j,Sv b F H bc j->Sv b mb vk ab j\/w.heap.size<=j):=by
      intro bc dd j q;rcases q with rfl|rfl|q|q
      .exact .inl (.inl rfl)
      .right;have:=D.o.2.1;omega
      .right;have:=(J.out.2.1 j (by rw[<-J.out.2.2.2.2.2];exact q)).1;omega
      .right;rw[dd]at q;have:=(ax j q).1;have:=D.o.2.1;omega
     by_cases e1:few<G.length+1
     .have df:decide ((few:Int)<(G.length:Int)+1)=true:=by simp;omega
      go_quiet(fail)
      generalize ci:cd.drewN nq=dg;have bd:Upd (fun _=>False) cd dg:=by rw[<-ci];exact(uur _ _).drewN _
      have ao:=qqh (ba.o.keep bd (fun _ _ h=>h));have dh:=qqh (cc.o.trans (bd.mono fE));clear ci bd da db;have di:=ao.out.c.2.2.2.2;have be:Hid (0<(G++[k]).length/\(G++[k]).length<=4096/\(G++[k]).tail=trimG few (G++[k])):=by
       refine⟨oe,by simp;omega,?_⟩;unfold trimG;rw[if_pos og]
      go_wp2_with fail
      refine(Qt ao.out.gs be.out.2.1 be.out.1).mono ?_;rintro e dj ⟨dk,dl,dm,rfl,bf,cj,aR⟩;have dn:=qqh (ao.out.setGhosts aR cj (.inl bf));have dp:Hid (Upd (fun j=>j=b) w (dj.setCell ⟨b,4,none⟩ (.slice dk dl dm))):=
       (dh.o.new aR (fun i aI e=>by have:=(ax i e).1;have:=D.o.2.1;omega)).trans (zi _ _ _ _)
      have bg:=(aR.block b (zd ao.out.str) (fun e=>ao.out.gb e)).trans ao.out.str;have dq:=za bg 4;have f14:=zg bg 4;simp at dq;have dr:=qqh bf;clear aR cj bf bg di;dsimp only;clear cW cX cO;go_wp2
      rw[qxq];go_ret2
      refine⟨k,0,restK K p,L,trimG few (G++[k]),F,H,_,rfl,⟨.inr ⟨rfl,ce.o⟩,cf.o⟩,?_,ch.out _ dr.o,dp.out⟩;rw[<-be.out.2.2];exact dn.out
     .have df:decide ((few:Int)<(G.length:Int)+1)=false:=by simp;omega
      go_quiet(fail)
      have ds:Hid (G++[k]=trimG few (G++[k])):=by show _=_;unfold trimG;rw[if_neg og]
      go_wp2
      rw[qxq];go_ret2
      refine⟨k,0,restK K p,L,trimG few (G++[k]),F,H,_,rfl,⟨.inr ⟨rfl,ce.o⟩,cf.o⟩,?_,ch.out _ rfl,cc.o.drewN _⟩;rw[<-ds.out];exact ba.o.keep ((uur (fun _=>False) _).drewN _) (fun _ _ h=>h)
    .have aq:=qqh aJ;clear aJ;obtain⟨M,e2,a8,cl,bP⟩:=SetAt.drop bJ.out (x:=k) aH 0;have co:=Y2 a8 cl;clear a8 cl bP;go_wp2
     go_roundg (gk-1)
     case measure=>omega
     case rel=>
      refine⟨h+1,oM,by go_num,updB L k false,co.out.1,?_,⟨oM,(SO oM ag.o V.o aj.o aq.o).symm.trans s.out.2.2.1.2⟩,fun j q cK=>?_,X.o.trans co.out.2⟩
      .intro x hx;by_cases e:x=k
       .subst e;simp[updB]at hx
       .simp only[updB,if_neg e]at hx;exact s.out.2.1 x hx
      .by_cases U:j<h
       .refine ⟨(s.out.2.2.2.1 j q U).1,fun e=>?_⟩;unfold updB;split
        .rfl
        .exact (s.out.2.2.2.1 j q U).2 e
       .have b1:p=j:=by rw[V.o,show h=j by omega];exact qXt q
        subst b1;rw[<-ag.o];exact⟨.inr (s.out.2.1 k aq.o),fun _=>by simp[updB]⟩
  .have dt:Hid (∀x∈K,fm x=false\/A x=true):=by
    intro x hx;obtain⟨j,q,rfl⟩:=qyv hx;exact(s.out.2.2.2.1 j q oM).1
   have du:Hid (evR fm few K A G=(0,14,K,A,G)):=by
    show _=_;unfold evR;rw[<-s.out.2.2.1.2,show gk=0 by omega];rfl
   have dw:Hid (CkMem wr b mb N vk ab most few K A G):=(a7.o.keep s.out.2.2.2.2 (fun j q e=>by subst e;have:=br.o.slt _ q;have:=D.o.2.1;omega)).toCkMem;have dx:Hid (Upd (fun j=>j=b) w wr):=(aF.out.new s.out.2.2.2.2 (fun i aI e=>by have:=D.o.2.1;omega)).mono fE;go_wp2
   rw[qxq];go_ret2
   exact⟨0,14,K,A,G,mb,vk,ab,rfl,⟨.inl ⟨rfl,rfl,rfl,rfl,rfl,dt.out⟩,du.out⟩,dw.out,fun j q=> .inl q,dx.out⟩
theorem evict_ck(h:Ck S w b N most few K A G)(O:∀j,w.heap.size<=j->S j)(H:Value)(fm:Int->Bool)(P:MayIs H fm w):
  Calls prog 418 #[.pointer (some ⟨b,0,none⟩),mayV H] w fun e w'=>∃q s D E F,e=.returned (.tuple #[.int .i64 q,.int .i64 s])/\
   EvOut fm few K A G q s D E F/\Ck S w' b N most few D E F/\Upd S w w':=by
 obtain⟨mb,vk,Y,h,L⟩:=h;refine(SQ h H fm P).mono ?_;rintro e w' ⟨q,s,D,E,F,Q,R,T,rfl,M,U,V,X⟩;exact⟨q,s,D,E,F,rfl,M,⟨Q,R,T,⟨U,M.good h.good⟩,fun j J=>(V j J).elim (L j) (O j)⟩,X.mono (fun j _ J=>by subst J;exact L _ (.inl rfl))⟩
end EvG
section
open Go.Shelf
attribute [local go_sem] qYb
abbrev It7:=Int×Bool
abbrev zcJ(x:It7):Array Value:= #[.int .i64 x.1,.bool x.2]
def kaL(K:List Int)(A:Int->Bool):List It7:=K.map fun k=>(k,A k)
theorem qA(K:List Int)(A:Int->Bool):(kaL K A).length=K.length:=by simp[kaL]
theorem SR(K:List Int)(A:Int->Bool){k:Nat}(h:k<K.length):(kaL K A).take (k+1)=(kaL K A).take k++[(K[k],A K[k])]:=by
 rw[qXk (by rw[qA];exact h)];simp[kaL]
theorem Xw{β:Type}{B:Nat}{q:β->World->Prop}(E:AbidesFrom B q){s:β}{D:World}(h:q s W)(j:Upd (fun _=>False) W D):q s D:=
 E s W D none h ⟨j.os,j.tape,j.output,j.size,fun k F _=>j.block k F id⟩ (fun r e=>by cases e)
theorem zfe(n:Nat)(aB:2<=n)(S:Nat->Prop)(l M D mb N:Nat)(K:List Int)(A:Int->Bool)(v:Value)
  (aC:K.length<=4096) (O:∀x∈K,InR x) (Q:∀g,v.ownBlock=some g->¬S g) (ab:¬S D) (ad:¬S mb) (q R:List It7->World->Prop) (B0:Nat) (ae:AbidesFrom B0 q)
  (af:∀j (x:It7) W,q j W->j.length<K.length->YieldAt Fence.wide (n-1) prog l (zcJ x) W fun e s=>
   (e=.returned (.bool true)/\q (j++[x]) s/\Upd S W s)\/(e=.returned (.bool false)/\R (j++[x]) s))
  (W:World) (aD:W.cell? ⟨M,0,none⟩=some v) (T:W.cell? ⟨D,0,none⟩=some (.map (some mb))) (F:Sl W 3 1 v K.length (ints K)) (U:SetAt W mb N A) (ag:q [] W):
  CallsIn Fence.wide n prog 459 #[.func (.yield l) #[] #[],.pointer (some ⟨M,0,none⟩),.pointer (some ⟨D,0,none⟩)] W fun e s=>(∃v,e=.returned v)/\
   ((∃V,V=kaL K A/\q V s)\/(∃j,j<+:kaL K A/\R j s)):=by
 have ah:=qqh F;have ai:=qqh U;have aj:=qqh Q;have ak:=qqh O;have am:=(zH T).2;obtain⟨aE,c,rfl⟩:=F.rd.jW;clear F U Q O;refine callsIn_of_wp func459 rfl trivial ?_ rfl;simp only[ntmps459,qXh,qyz,qzc,Nat.reduceAdd,Nat.reduceSub,qxi,qxj,qXb,qxx,qzu,qxy]
 gi_wp2
 gi_loopw [8] (fun i wr=>∃k:Nat,k<=K.length/\i=.int .i64 k/\q ((kaL K A).take k) wr/\Upd S W wr)
  (fun i _=>K.length-(intOf i).toNat)
 case atStart=>exact⟨0,qXz _,rfl,ag,uur _ _⟩
 case round=>
  obtain⟨k,aF,rfl,X,E⟩:=hrel;have aG:wr.cell? ⟨D,0,none⟩=some (.map (some mb)):=(E.cellAt am ab).trans T;by_cases hlt:k<K.length
  .have Y:=ah.o.keep E aj.o;obtain⟨gk,ok,ck,an,ao,Z⟩:=Y.rd.at oM;cases an;have ap:=Z k _ (yp hlt);have aq:=qqh (ai.o.keep E ad);have H:Hid ((kaL K A).take (k+1)=(kaL K A).take k++[(K[k],A K[k])]):=SR K A hlt;have ar:Hid (((kaL K A).take k).length<K.length):=by show _<_;rw[qzf,qA];omega
   have a6:InR K[k]:=ak.o _ (qyu hlt);obtain⟨x,hx⟩:=qqe (K[k]);rw[<-hx]at ap H a6;clear Y Z ao hx
   gi_wp2_with fail
   refine⟨trivial,fun _=>oM,?_⟩;refine(callsIn_wide.2 (uI aq.o x a6)).mono ?_;rintro e au ⟨rfl,a7⟩;have J:=qqb a7;have av:=qqh (Xw ae X J);have aw:=qqh (E.trans (J.mono (S':=S) (fun _ _ h=>h.elim)));obtain⟨aH,aI,assign,body,hy,L⟩:=af _ (x,A x) au av.o ar.o;simp only[zcJ]at hy;clear a7 J
   gi_wp2
   refine⟨fun _=>oM,?_⟩;refine L.mono ?_;rintro e aJ (⟨rfl,a8,aa⟩|⟨rfl,ax⟩)
   .have ay:=qqh a8;have az:=qqh (aw.o.trans aa);clear a8 aa L
    gi_wp2
    go_roundw
    case rel=>exact⟨k+1,oM,oe,by rw[H.o];exact ay.o,az.o⟩
    case measure=>simp[intOf];omega
   .clear L
    gi_wp2
    refine qYq (qYw rfl _ _ _) rfl ?_;exact⟨⟨_,rfl⟩,.inr ⟨_,by rw[<-H.o];exact List.take_prefix _ _,ax⟩⟩
  .obtain rfl:k=K.length:=oM;have aA:Hid ((kaL K A).take K.length=kaL K A):=qXj (by rw[qA];exact qXp _)
   gi_wp2
   go_end0
   exact⟨⟨_,rfl⟩,.inl ⟨_,rfl,by rw[<-aA.o];exact X⟩⟩
def zcK{α:Type}(enc:α->Array Value)(w:World)(gf:Nat)(lb:Array Value)(xs:List α):Prop:=
 (∀args w,(callFunc gf args).run prog w=.ok (.enter gf args) w)/\
 ∀(n:Nat),2<=n->∀(S:Nat->Prop),(∀j,S j->w.heap.size<=j)->∀w2,Below w.heap.size w w2->
  SeqStopsK Fence.wide n prog gf lb enc (Upd S) (fun ys=>ys=xs) (fun pre=>pre<+:xs) xs.length w2
theorem yl(h:∃u,W.cell? ⟨p,0,none⟩=some u):(W.setCell ⟨p,0,none⟩ v).cell? ⟨p,0,none⟩=some v:=by
 obtain⟨u,h⟩:=h;exact World.cell?_setCell_same W _ v h
theorem vl{q:Nat}(h:p≠q):(W.setCell ⟨q,0,none⟩ v).cell? ⟨p,0,none⟩=W.cell? ⟨p,0,none⟩:=
 World.cell?_of_block (a:=⟨p,0,none⟩) (w:=W) (Below.heap_setCell W ⟨q,0,none⟩ v p h)
theorem ym{q:Nat}{v':Value}(j:p≠q)(h:∃u,W.cell? ⟨p,0,none⟩=some u):((W.setCell ⟨q,0,none⟩ v').setCell ⟨p,0,none⟩ v).cell? ⟨p,0,none⟩=some v:=by
 obtain⟨u,h⟩:=h;exact yl ⟨u,(vl j).trans h⟩
theorem vX{o:Obj}(h:p<W.heap.size):(W.alloc o).cell? ⟨p,0,none⟩=W.cell? ⟨p,0,none⟩:=
 World.cell?_of_block (a:=⟨p,0,none⟩) (w:=W) (qxk W o p h)
theorem xX{T:TypeId}(h:n=W.heap.size):(W.alloc (.cells #[v] T)).cell? ⟨n,0,none⟩=some v:=
 za (zc W _ h) 0
def UT(w:World)(N:Nat)(K:List Int)(A:Int->Bool)(e:Ending)(w':World):Prop:=
 ∃Bs Bm v m2,e=.returned (.func (.func 459) #[] #[.pointer (some ⟨Bs,0,none⟩),.pointer (some ⟨Bm,0,none⟩)])/\
   w'.cell? ⟨Bs,0,none⟩=some v/\w'.cell? ⟨Bm,0,none⟩=some (.map (some m2))/\Sl w' 3 1 v K.length (ints K)/\SetAt w' m2 N A/\Below w.heap.size w w'
theorem zao{D E:World}{j q s:Nat}{e:Ending}(Q:e=.returned (.func (.func 459) #[] #[.pointer (some ⟨j,0,none⟩),.pointer (some ⟨q,0,none⟩)]))
  (c1:W.cell? ⟨j,0,none⟩=some v) (c2:W.cell? ⟨q,0,none⟩=some (.map (some s))) (R:Sl D 3 1 v K.length (ints K)) (H:Upd (fun _=>False) D E) (T:SetAt E s N A) (F:Upd (fun J=>J=j\/J=q) E W)
  (L:∀g,v.ownBlock=some g->g≠j/\g≠q) (M:s≠j/\s≠q) (U:Upd (fun _=>False) w D) (O:w.heap.size<=j/\w.heap.size<=q):UT w N K A e W:=
 ⟨j,q,v,s,Q,c1,c2,(R.keep H (fun _ _ h=>h)).keep F (fun g P h=>h.elim (L g P).1 (L g P).2),T.keep F (fun h=>h.elim M.1 M.2),
  zj (zj (zj (qxl _ w) U (qXp _) (fun _ h=>h.elim)) H (qXp _) (fun _ h=>h.elim)) F (qXp _) (fun _j h=>h.elim (fun e=>e▸O.1) (fun e=>e▸O.2))⟩
theorem zap{mb:Nat}{aX:Value}(h:CkAt w b mb N vk aX most few K A G):
  Calls prog 434 #[.pointer (some ⟨b,0,none⟩)] w (UT w N K A):=by
 have E:=qqh (fun(W:World) (X:Upd (fun _=>False) w W)=>h.keep X (fun _ _ h=>h));have Z:=h.blt;have bb:=h.kle;have ag:K.length<=4096:=oM;have bc:=h.c.2.2.1;have bd:=h.c.2.2.2.1;clear h;have be:¬b=w.heap.size:=oM;have bf:¬w.heap.size=b:=oM;have bg:¬b=w.heap.size+1:=oM;have bh:¬w.heap.size+1=b:=oM;have aY:=qqh (E.o (w.drew) ((uur _ _).drew));have aZ:=qqh (E.o ((w.alloc (.cells #[.slice none 0 0] 77)).drew) (((uur _ _).alloc _).drew));have aj:Hid (((w.alloc (.cells #[.slice none 0 0] 77)).drew).heap[w.heap.size]?=some (.cells #[.slice none 0 0] 77 (0,0))):=zc w _ rfl;have b0:=qqh (E.o ((w.alloc (.cells #[.map none] 296)).drew) (((uur _ _).alloc _).drew));have ak:Hid (((w.alloc (.cells #[.map none] 296)).drew).heap[w.heap.size]?=some (.cells #[.map none] 296 (0,0))):=zc w _ rfl;have b1:=qqh (E.o (((w.alloc (.cells #[.slice none 0 0] 77)).alloc (.cells #[.map none] 296)).drew) ((((uur _ _).alloc _).alloc _).drew));have am:Hid ((((w.alloc (.cells #[.slice none 0 0] 77)).alloc (.cells #[.map none] 296)).drew).heap[w.heap.size]?=some (.cells #[.slice none 0 0] 77 (0,0))):=((((uur (fun _=>False) (w.alloc (.cells #[.slice none 0 0] 77))).alloc (.cells #[.map none] 296)).block w.heap.size oe id).trans (zc w _ rfl))
 have an:Hid ((((w.alloc (.cells #[.slice none 0 0] 77)).alloc (.cells #[.map none] 296)).drew).heap[w.heap.size+1]?=some (.cells #[.map none] 296 (0,0))):=zc (w.alloc _) _ oe;have b2:=qqh (E.o (((w.alloc (.cells #[.map none] 296)).alloc (.cells #[.slice none 0 0] 77)).drew) ((((uur _ _).alloc _).alloc _).drew));have ao:Hid ((((w.alloc (.cells #[.map none] 296)).alloc (.cells #[.slice none 0 0] 77)).drew).heap[w.heap.size]?=some (.cells #[.map none] 296 (0,0))):=((((uur (fun _=>False) (w.alloc (.cells #[.map none] 296))).alloc (.cells #[.slice none 0 0] 77)).block w.heap.size oe id).trans (zc w _ rfl))
 have ap:Hid ((((w.alloc (.cells #[.map none] 296)).alloc (.cells #[.slice none 0 0] 77)).drew).heap[w.heap.size+1]?=some (.cells #[.slice none 0 0] 77 (0,0))):=zc (w.alloc _) _ oe;go_enter func434,ntmps434
 go_wp2
 go_region_held3 (fun W=>W.cell? ⟨b,2,none⟩=some vk/\W.cell? ⟨b,3,none⟩=some (.map (some mb))) (go_keep)
  (first
  |((go_at_call 267;(with_reducible refine(yE aY.out.ks.rd ag).mono ?_);rintro e j ⟨v3,rfl,Q,R,s⟩;obtain⟨ad,ae,rfl⟩:=Q.rd.jW;have F:Upd (fun _=>False) w j:=Upd.trans ((uur _ _).drew) (uuo s);have a6:Hid (∀W,Upd (fun _=>False) j W->True/\True):=fun W X=>⟨trivial,trivial⟩;have aq:b<j.heap.size:=qXs Z F.size;have ar:¬b=j.heap.size:=oM;have nx1:¬j.heap.size=b:=oM;have au:¬b=j.heap.size+1:=oM;have av:¬j.heap.size+1=b:=oM;have aw:=(E.o _ F).c.2.2.1;have ax:=(E.o _ F).c.2.2.2.1;have H:=Y4 Q R s F;clear Q R s F))
  |((go_at_call 267;(with_reducible refine(yE aZ.out.ks.rd ag).mono ?_);rintro e j ⟨v3,rfl,Q,R,s⟩;obtain⟨ad,ae,rfl⟩:=Q.rd.jW;have F:Upd (fun _=>False) w j:=Upd.trans (((uur _ _).alloc _).drew) (uuo s);have a6:Hid (∀W,Upd (fun _=>False) j W->W.heap[w.heap.size]?=some (.cells #[.slice none 0 0] 77 (0,0))/\True):=fun W X=>⟨(X.block _ (qXs (zd aj.out) s.size) id).trans ((s.block _ (zd aj.out)).trans aj.out),trivial⟩;have z0:w.heap.size<j.heap.size:=qXs (zd aj.out) s.size;have aP:=qXx z0;have aQ:=qXw z0;have aq:b<j.heap.size:=qXs Z F.size;have ar:¬b=j.heap.size:=oM;have nx1:¬j.heap.size=b:=oM;have au:¬b=j.heap.size+1:=oM;have av:¬j.heap.size+1=b:=oM;have aw:=(E.o _ F).c.2.2.1;have ax:=(E.o _ F).c.2.2.2.1;have H:=Y4 Q R s F;clear Q R s F))
  |((go_at_call 267;(with_reducible refine(yE b0.out.ks.rd ag).mono ?_);rintro e j ⟨v3,rfl,Q,R,s⟩;obtain⟨ad,ae,rfl⟩:=Q.rd.jW;have F:Upd (fun _=>False) w j:=Upd.trans (((uur _ _).alloc _).drew) (uuo s);have a6:Hid (∀W,Upd (fun _=>False) j W->W.heap[w.heap.size]?=some (.cells #[.map none] 296 (0,0))/\True):=fun W X=>⟨(X.block _ (qXs (zd ak.out) s.size) id).trans ((s.block _ (zd ak.out)).trans ak.out),trivial⟩;have z0:w.heap.size<j.heap.size:=qXs (zd ak.out) s.size;have aP:=qXx z0;have aQ:=qXw z0;have aq:b<j.heap.size:=qXs Z F.size;have ar:¬b=j.heap.size:=oM;have nx1:¬j.heap.size=b:=oM;have au:¬b=j.heap.size+1:=oM;have av:¬j.heap.size+1=b:=oM;have aw:=(E.o _ F).c.2.2.1;have ax:=(E.o _ F).c.2.2.2.1;have H:=Y4 Q R s F;clear Q R s F))
  |((go_at_call 267;(with_reducible refine(yE b1.out.ks.rd ag).mono ?_);rintro e j ⟨v3,rfl,Q,R,s⟩;obtain⟨ad,ae,rfl⟩:=Q.rd.jW;have F:Upd (fun _=>False) w j:=Upd.trans ((((uur _ _).alloc _).alloc _).drew) (uuo s);have a6:Hid (∀W,Upd (fun _=>False) j W->W.heap[w.heap.size]?=some (.cells #[.slice none 0 0] 77 (0,0))/\W.heap[w.heap.size+1]?=some (.cells #[.map none] 296 (0,0))):=fun W X=>⟨(X.block _ (qXs (zd am.out) s.size) id).trans ((s.block _ (zd am.out)).trans am.out),(X.block _ (qXs (zd an.out) s.size) id).trans ((s.block _ (zd an.out)).trans an.out)⟩;have z0:w.heap.size<j.heap.size:=qXs (zd am.out) s.size;have aP:=qXx z0;have aQ:=qXw z0;have ah:w.heap.size+1<j.heap.size:=qXs (zd an.out) s.size;have b3:=qXx ah;have b4:=qXw ah;have aq:b<j.heap.size:=qXs Z F.size;have ar:¬b=j.heap.size:=oM;have nx1:¬j.heap.size=b:=oM;have au:¬b=j.heap.size+1:=oM;have av:¬j.heap.size+1=b:=oM;have aw:=(E.o _ F).c.2.2.1;have ax:=(E.o _ F).c.2.2.2.1;have H:=Y4 Q R s F;clear Q R s F))
  |((go_at_call 267;(with_reducible refine(yE b2.out.ks.rd ag).mono ?_);rintro e j ⟨v3,rfl,Q,R,s⟩;obtain⟨ad,ae,rfl⟩:=Q.rd.jW;have F:Upd (fun _=>False) w j:=Upd.trans ((((uur _ _).alloc _).alloc _).drew) (uuo s);have a6:Hid (∀W,Upd (fun _=>False) j W->W.heap[w.heap.size]?=some (.cells #[.map none] 296 (0,0))/\W.heap[w.heap.size+1]?=some (.cells #[.slice none 0 0] 77 (0,0))):=fun W X=>⟨(X.block _ (qXs (zd ao.out) s.size) id).trans ((s.block _ (zd ao.out)).trans ao.out),(X.block _ (qXs (zd ap.out) s.size) id).trans ((s.block _ (zd ap.out)).trans ap.out)⟩;have z0:w.heap.size<j.heap.size:=qXs (zd ao.out) s.size;have aP:=qXx z0;have aQ:=qXw z0;have ah:w.heap.size+1<j.heap.size:=qXs (zd ap.out) s.size;have b3:=qXx ah;have b4:=qXw ah;have aq:b<j.heap.size:=qXs Z F.size;have ar:¬b=j.heap.size:=oM;have nx1:¬j.heap.size=b:=oM;have au:¬b=j.heap.size+1:=oM;have av:¬j.heap.size+1=b:=oM;have aw:=(E.o _ F).c.2.2.1;have ax:=(E.o _ F).c.2.2.2.1;have H:=Y4 Q R s F;clear Q R s F))
  |((go_at_call 437;(with_reducible refine(yW (w:=j) (E.o _ (H.out.2.2.2.trans (uur _ _))).set).mono ?_);rintro e q ⟨rfl,T,M⟩;have D:Upd (fun _=>False) j q:=Upd.trans (uur _ _) (uuo M);obtain⟨J,L⟩:=a6.out _ D;(try(have a7:=za J 0));(try(have ay:=zg J 0));(try(have a8:=za L 0));(try(have az:=zg L 0));(try simp at a7);(try simp at a8);(try(have U:=zd J));(try(have V:=zd L));(try(have aA:=qXx U));(try(have aB:=qXw U));(try(have aC:=qXx V));(try(have aD:=qXw V));have aE:=qqh J;have aF:=qqh L;clear J L;have aG:Hid True:=trivial;have aH:Hid True:=trivial;have aI:b<q.heap.size:=qXs (qXs Z H.out.2.2.2.size) D.size;have aJ:¬b=q.heap.size:=oM;have aK:¬q.heap.size=b:=oM;have aL:¬b=q.heap.size+1:=oM;have aM:¬q.heap.size+1=b:=oM;have aN:=(E.o _ (H.out.2.2.2.trans D)).c.2.2.1;have aO:=(E.o _ (H.out.2.2.2.trans D)).c.2.2.2.1;have aa:=Y3 T M D;clear T M D))
  |((go_at_call 437;(with_reducible refine(yW (w:=(j.alloc (.cells #[.slice none 0 0] 77))) (E.o _ (H.out.2.2.2.trans ((uur _ _).alloc _))).set).mono ?_);rintro e q ⟨rfl,T,M⟩;have D:Upd (fun _=>False) j q:=Upd.trans ((uur _ _).alloc _) (uuo M);obtain⟨J,L⟩:=a6.out _ D;(try(have a7:=za J 0));(try(have ay:=zg J 0));(try(have a8:=za L 0));(try(have az:=zg L 0));(try simp at a7);(try simp at a8);(try(have U:=zd J));(try(have V:=zd L));(try(have aA:=qXx U));(try(have aB:=qXw U));(try(have aC:=qXx V));(try(have aD:=qXw V));have aE:=qqh J;have aF:=qqh L;clear J L;have O:q.heap[j.heap.size]?=some (.cells #[.slice none 0 0] 77 (0,0)):=(M.block _ oC).trans (zc j _ rfl);have ab:=za O 0;have aR:=zg O 0;simp at ab;have aG:=qqh O;have Y:=zd O;have aS:=qXx Y;have aT:=qXw Y;clear O;have aH:Hid True:=trivial;have aI:b<q.heap.size:=qXs (qXs Z H.out.2.2.2.size) D.size;have aJ:¬b=q.heap.size:=oM;have aK:¬q.heap.size=b:=oM;have aL:¬b=q.heap.size+1:=oM;have aM:¬q.heap.size+1=b:=oM;have aN:=(E.o _ (H.out.2.2.2.trans D)).c.2.2.1;have aO:=(E.o _ (H.out.2.2.2.trans D)).c.2.2.2.1;have aa:=Y3 T M D;clear T M D))
  |((go_at_call 437;(with_reducible refine(yW (w:=(j.alloc (.cells #[.map none] 296))) (E.o _ (H.out.2.2.2.trans ((uur _ _).alloc _))).set).mono ?_);rintro e q ⟨rfl,T,M⟩;have D:Upd (fun _=>False) j q:=Upd.trans ((uur _ _).alloc _) (uuo M);obtain⟨J,L⟩:=a6.out _ D;(try(have a7:=za J 0));(try(have ay:=zg J 0));(try(have a8:=za L 0));(try(have az:=zg L 0));(try simp at a7);(try simp at a8);(try(have U:=zd J));(try(have V:=zd L));(try(have aA:=qXx U));(try(have aB:=qXw U));(try(have aC:=qXx V));(try(have aD:=qXw V));have aE:=qqh J;have aF:=qqh L;clear J L;have O:q.heap[j.heap.size]?=some (.cells #[.map none] 296 (0,0)):=(M.block _ oC).trans (zc j _ rfl);have ab:=za O 0;have aR:=zg O 0;simp at ab;have aG:=qqh O;have Y:=zd O;have aS:=qXx Y;have aT:=qXw Y;clear O;have aH:Hid True:=trivial;have aI:b<q.heap.size:=qXs (qXs Z H.out.2.2.2.size) D.size;have aJ:¬b=q.heap.size:=oM;have aK:¬q.heap.size=b:=oM;have aL:¬b=q.heap.size+1:=oM;have aM:¬q.heap.size+1=b:=oM;have aN:=(E.o _ (H.out.2.2.2.trans D)).c.2.2.1;have aO:=(E.o _ (H.out.2.2.2.trans D)).c.2.2.2.1;have aa:=Y3 T M D;clear T M D))
  |((go_at_call 437;(with_reducible refine(yW (w:=((j.alloc (.cells #[.slice none 0 0] 77)).alloc (.cells #[.map none] 296))) (E.o _ (H.out.2.2.2.trans (((uur _ _).alloc _).alloc _))).set).mono ?_);rintro e q ⟨rfl,T,M⟩;have D:Upd (fun _=>False) j q:=Upd.trans (((uur _ _).alloc _).alloc _) (uuo M);obtain⟨J,L⟩:=a6.out _ D;(try(have a7:=za J 0));(try(have ay:=zg J 0));(try(have a8:=za L 0));(try(have az:=zg L 0));(try simp at a7);(try simp at a8);(try(have U:=zd J));(try(have V:=zd L));(try(have aA:=qXx U));(try(have aB:=qXw U));(try(have aC:=qXx V));(try(have aD:=qXw V));have aE:=qqh J;have aF:=qqh L;clear J L;have O:q.heap[j.heap.size]?=some (.cells #[.slice none 0 0] 77 (0,0)):=(M.block _ oC).trans (((((uur (fun _=>False) (j.alloc (.cells #[.slice none 0 0] 77))).alloc (.cells #[.map none] 296)).block j.heap.size oe id).trans (zc j _ rfl)));have ab:=za O 0;have aR:=zg O 0;simp at ab;have aG:=qqh O;have Y:=zd O;have aS:=qXx Y;have aT:=qXw Y;clear O;have m1:q.heap[j.heap.size+1]?=some (.cells #[.map none] 296 (0,0)):=(M.block _ oC).trans (zc (j.alloc _) _ oe);have aU:=za m1 0;have b5:=zg m1 0;simp at aU;have aH:=qqh m1;have ai:=zd m1;have b6:=qXx ai;have b7:=qXw ai;clear m1;have aI:b<q.heap.size:=qXs (qXs Z H.out.2.2.2.size) D.size;have aJ:¬b=q.heap.size:=oM;have aK:¬q.heap.size=b:=oM;have aL:¬b=q.heap.size+1:=oM;have aM:¬q.heap.size+1=b:=oM;have aN:=(E.o _ (H.out.2.2.2.trans D)).c.2.2.1;have aO:=(E.o _ (H.out.2.2.2.trans D)).c.2.2.2.1;have aa:=Y3 T M D;clear T M D))
  |((go_at_call 437;(with_reducible refine(yW (w:=((j.alloc (.cells #[.map none] 296)).alloc (.cells #[.slice none 0 0] 77))) (E.o _ (H.out.2.2.2.trans (((uur _ _).alloc _).alloc _))).set).mono ?_);rintro e q ⟨rfl,T,M⟩;have D:Upd (fun _=>False) j q:=Upd.trans (((uur _ _).alloc _).alloc _) (uuo M);obtain⟨J,L⟩:=a6.out _ D;(try(have a7:=za J 0));(try(have ay:=zg J 0));(try(have a8:=za L 0));(try(have az:=zg L 0));(try simp at a7);(try simp at a8);(try(have U:=zd J));(try(have V:=zd L));(try(have aA:=qXx U));(try(have aB:=qXw U));(try(have aC:=qXx V));(try(have aD:=qXw V));have aE:=qqh J;have aF:=qqh L;clear J L;have O:q.heap[j.heap.size]?=some (.cells #[.map none] 296 (0,0)):=(M.block _ oC).trans (((((uur (fun _=>False) (j.alloc (.cells #[.map none] 296))).alloc (.cells #[.slice none 0 0] 77)).block j.heap.size oe id).trans (zc j _ rfl)));have ab:=za O 0;have aR:=zg O 0;simp at ab;have aG:=qqh O;have Y:=zd O;have aS:=qXx Y;have aT:=qXw Y;clear O;have m1:q.heap[j.heap.size+1]?=some (.cells #[.slice none 0 0] 77 (0,0)):=(M.block _ oC).trans (zc (j.alloc _) _ oe);have aU:=za m1 0;have b5:=zg m1 0;simp at aU;have aH:=qqh m1;have ai:=zd m1;have b6:=qXx ai;have b7:=qXw ai;clear m1;have aI:b<q.heap.size:=qXs (qXs Z H.out.2.2.2.size) D.size;have aJ:¬b=q.heap.size:=oM;have aK:¬q.heap.size=b:=oM;have aL:¬b=q.heap.size+1:=oM;have aM:¬q.heap.size+1=b:=oM;have aN:=(E.o _ (H.out.2.2.2.trans D)).c.2.2.1;have aO:=(E.o _ (H.out.2.2.2.trans D)).c.2.2.2.1;have aa:=Y3 T M D;clear T M D)))
 all_goals
  go_wp2
  go_ret
  have b8:=H.out.2.2.1.size;have b9:=aa.out.2.1.size;have bi:=aa.out.2.2.size;have ba:=aa.out.1.lt;simp only[qYm,World.size_drew]at b8 b9 ba;have aW:∀g,(Value.slice ad K.length ae).ownBlock=some g->g<j.heap.size:=fun g af=>H.out.1.lt af;have aV:∀g,(Value.slice ad K.length ae).ownBlock=some g->_<=g:=H.out.2.1;simp only[qYm,World.size_drew]at aV;refine zao rfl ?c1 ?c2 H.out.1 aa.out.2.2 aa.out.1 ?u ?v ?m H.out.2.2.2 ?B
  case u=>(repeat (first|exact uur _ _|refine Upd.alloc ?_ _|refine Upd.setCell ?_ _ (fun _=>oe) _))
  case B=>exact⟨oM,oM⟩
  case m=>(try simp only[qYm]);exact⟨oM,oM⟩
  case v=>exact fun g af=>⟨by have:=aW g af;have:=aV g af;omega,by have:=aW g af;have:=aV g af;omega⟩
  case c1=>with_reducible first|(first|exact xX oe|exact ym oM ⟨_,‹_›⟩|exact yl ⟨_,‹_›⟩)|(refine(vl ?_).trans ?_;omega;first|exact xX oe|exact ym oM ⟨_,‹_›⟩|exact yl ⟨_,‹_›⟩)|(refine(vX ?_).trans ?_;((try simp only[qYm,World.size_setCell]);omega);first|exact xX oe|exact ym oM ⟨_,‹_›⟩|exact yl ⟨_,‹_›⟩)
  case c2=>(try simp only[qYm]);with_reducible first|(first|exact xX oe|exact ym oM ⟨_,‹_›⟩|exact yl ⟨_,‹_›⟩)|(refine(vl ?_).trans ?_;omega;first|exact xX oe|exact ym oM ⟨_,‹_›⟩|exact yl ⟨_,‹_›⟩)|(refine(vX ?_).trans ?_;((try simp only[qYm,World.size_setCell]);omega);first|exact xX oe|exact ym oM ⟨_,‹_›⟩|exact yl ⟨_,‹_›⟩)
theorem Vs(h:Ck S w b N most few K A G):
  Calls prog 434 #[.pointer (some ⟨b,0,none⟩)] w fun e w'=>∃q lb,e=.returned (.func (.func q) #[] lb)/\zcK zcJ w' q lb (kaL K A)/\Below w.heap.size w w':=by
 obtain⟨mb,vk,a7,h,-⟩:=h;refine(zap h).mono ?_;rintro e w1 ⟨H,J,v,L,rfl,c1,c2,s,D,M⟩;refine⟨_,_,rfl,⟨enters_of func459 kR rfl,fun n O S Q a8 R=>?_⟩,M⟩;intro l T U W V X _ E Y;have hlt:∀{F:Nat},F<w1.heap.size->¬S F:=fun aa e=>by have:=Q _ e;omega
 have Z:=qqb R;have j:Upd (fun _=>False) w1 W:=Z.trans (uuo V);rw[qA]at E;exact zfe n O S l H J L N K A v (by have:=h.kle;omega) h.good.kr (fun g a6=>hlt (s.lt a6)) (hlt (zH c2).2) (hlt D.lt) T U W.heap.size X E W ((j.cellAt (zH c1).2 id).trans c1) ((j.cellAt (zH c2).2 id).trans c2)
  (s.keep j (fun _ _ h=>h)) (D.keep j id) Y
end
def rE(X:Int->World->Prop)(R:World->Prop)(e:Ending)(w':World):Prop:=∃c:Int,e=.returned (.int .i64 c)/\(c=0->R w')/\(c≠0->X c w')
theorem zff(aa:n<=100)(fd:Nat->Nat)(fi ca:Nat->Array Value)(R:Nat->World->Prop)(X:Int->World->Prop)
  (J:∀k,k<n->∀W,R k W->W.cell? ⟨g,k,none⟩=some (.func (.func (fd k)) (fi k) (ca k)))
  (L:∀k,k<n->∀M W,(callFunc (fd k) M).run prog W=.ok (.enter (fd k) M) W)
  (O:∀k,k<n->∀W,R k W->Calls prog (fd k) (fi k++ca k) W (rE X (R (k+1))))
   (Q:R 0 w):Calls prog 32 #[.slice (some ⟨g,0,none⟩) n n] w (rE X (R n)):=by
 have s:=Y3 J O Q;have Z:=qqh L;clear J L O Q;go_enter func32,ntmps32
 go_wp2
 go_step3
 go_wp2
 go_step3
 go_wp2_with fail
 go_loopg[3,8] n (fun gk a6 a7 wr=>∃k:Nat,k+gk=n/\a7=.int .i64 (k:Int)/\a6=.int .i64 0/\R k wr)
 case atStart=>exact⟨0,oM,rfl,rfl,s.o.2.2⟩
 case round=>
  obtain⟨k,ab,rfl,rfl,j⟩:=hrel;by_cases hlt:k<n
  .have a8:(k:Int)<(n:Int):=oM;have ad:(0:Int)<=(k:Int):=oM;have cg:=s.o.1 k hlt wr j;have D:=qqh (s.o.2.1 k hlt wr j);have T:=Z.o k hlt;clear j;obtain⟨ae,E⟩:=qqe (fd k);obtain⟨af,U⟩:=qqe (fi k);obtain⟨ck,V⟩:=qqe (ca k);rw[<-E,<-U,<-V]at cg D;rw[<-E]at T;clear E U V;go_wp2_with fail
   refine D.o.mono ?_;rintro e ag ⟨c,rfl,F,hx⟩;clear D cg T;by_cases q:c=0
   .subst q;have H:=qqh (F rfl);clear F hx;go_wp2_with fail
    go_roundg (gk-1)
    case measure=>omega
    case rel=>exact⟨k+1,oM,by go_num,rfl,H.o⟩
   .have ah:(c==0)=false:=by simpa using q
    have Y:=Y2 q (hx q);clear F hx q;go_wp2_with fail
    try rw[qxq]
    go_ret
    exact⟨c,rfl,fun h=>absurd h Y.o.1,fun _=>Y.o.2⟩
  .obtain rfl:k=n:=oM;have a8:¬((k:Int)<(k:Int)):=oM;have H:=qqh j;clear j;go_wp2_with fail
   try rw[qxq]
   go_ret
   exact⟨0,rfl,fun _=>H.o,fun h=>absurd rfl h⟩
def sizeN(sl jo pa lo:Nat):Nat:=1+2*pa+jo+lo+lo+lo+sl
def rG(F G:List Bk)(z bl:Nat):Int:=if F.length=z/\G.length=bl then 0 else 22
theorem Zcg10{P:Prop}(h:P:=by
  go_quiet((go_at_call 55;(first|with_reducible exact Calls.quiet_of_same (D.o.1 _)|with_reducible exact Calls.quiet_of_same (D.o.2 _))))
  have J:=a7.o.trans ((uur (fun _=>False) w1).drewN nq);generalize w1.drewN nq=ai at*;go_wp2
  go_ret
  exact⟨rfl,J⟩):P:=h
theorem SS{T:Nat->Prop}{V:Nat}{F G:List Bk}{O Q:List (Nat×Bk)}{P R:List Int}(h:Dv S w b F O P)(ab:Dv T w V G Q R)(id:Int)(bl sl j q s ad:Nat):
  Calls prog 25 #[.agg (superC id bl sl j q s ad).toArray,.agg (layC sl j q s).toArray,.pointer (some ⟨b,0,none⟩),.pointer (some ⟨V,0,none⟩)] w
   fun e w'=>e=.returned (.int .i64 (rG F G (sizeN sl j q s) bl))/\Upd (fun _=>False) w w':=by
 obtain⟨X,Y⟩:=qqe (superC id bl sl j q s ad);obtain⟨Z,a6⟩:=qqe (layC sl j q s);obtain⟨w1,E⟩:=qqe ((w.alloc (.cells X.toArray 38)).alloc (.cells Z.toArray 62));have L:Upd (fun _=>False) w w1:=by rw[E];exact((uur _ w).alloc _).alloc _
 have ae:w1.heap[w.heap.size]?=some (.cells X.toArray 38):=by
  rw[E];exact(((uur (fun _=>False) (w.alloc (.cells X.toArray 38))).alloc (.cells Z.toArray 62))).jV (zc w _ rfl)
 have af:w1.heap[w.heap.size+1]?=some (.cells Z.toArray 62):=by rw[E];exact zc _ _ oe
 have ak:w1.cell? ⟨w.heap.size,1,none⟩=some (.int .i64 (bl:Int)):=by rw[za ae,Y];simp[superC]
 have am:w1.cell? ⟨w.heap.size+1,6,none⟩=some (.int .i64 ((sizeN sl j q s:Nat):Int)):=by rw[za af,a6];simp[layC,sizeN]
 have ag:∀k,Calls prog 55 #[.pointer (some ⟨b,0,none⟩)] (w1.drewN k) fun e w'=>e=.returned (.int .i64 (F.length:Int))/\w'=w1.drewN k:=fun k=>tT (h.new (L.trans ((uur (fun _=>False) w1).drewN k)));have ah:∀k,Calls prog 55 #[.pointer (some ⟨V,0,none⟩)] (w1.drewN k) fun e w'=>e=.returned (.int .i64 (G.length:Int))/\w'=w1.drewN k:=fun k=>tT (ab.new (L.trans ((uur (fun _=>False) w1).drewN k)));have D:=Y2 ag ah;have a7:=qqh L;have aj:=qqh E;obtain⟨a8,M⟩:=qqe (rG F G (sizeN sl j q s) bl);rw[<-Y,<-a6,<-M];unfold rG at M;generalize sizeN sl j q s=z at*;generalize F.length=f at*;generalize G.length=g at*;have aa:=qqh M;clear h ab ag ah L E ae af Y a6 M;go_enter func25,ntmps25
 go_wp2_with fail
 rw[<-aj.o];by_cases H:f=z
 .by_cases U:g=bl
  .have e:a8=0:=by rw[aa.o,if_pos ⟨H,U⟩]
   subst H U e
   exact Zcg10
  .have e:a8=22:=by rw[aa.o,if_neg (fun h=>U h.2)]
   have q1:¬(g:Int)=(bl:Int):=oM;have q2:((g:Int)==(bl:Int))=false:=by simpa using q1
   subst H e;clear U
   exact Zcg10
 .have e:a8=22:=by rw[aa.o,if_neg (fun h=>H h.1)]
  have q1:¬(f:Int)=(z:Int):=oM;have q2:((f:Int)==(z:Int))=false:=by simpa using q1
  subst e;clear H
  go_quiet((go_at_call 55;(first|with_reducible exact Calls.quiet_of_same (D.o.1 _)|with_reducible exact Calls.quiet_of_same (D.o.2 _))))
  have J:=a7.o.trans ((uur (fun _=>False) w1).drewN nq);generalize w1.drewN nq=ai at*;go_wp2
  go_ret
  exact⟨rfl,J⟩
def bndS:List (Int×Int):=[(0,1099511627776),(1,4096),(1,1024),(1,4096),(1,4096),(1,4096),(1,64)]
def mayS(xs:List Int):Bool:=withinB bndS xs
theorem Xx{gl ol cl j:Nat}(xs:List Int)(q:xs.length=7)(_hcl:7<=cl)(_hcm:cl<=maxLen)(s:Bnd w (.func (.func 167) #[] #[.pointer (some ⟨j,0,none⟩)]) bndS)(hx:w.rangeAt gl ol (ints xs)):
  Calls prog 167 (#[.slice (some ⟨gl,ol,none⟩) 7 cl]++ #[.pointer (some ⟨j,0,none⟩)]) w fun e w'=>e=.returned (.bool (mayS xs))/\Below w.heap.size w w':=by
 obtain⟨g,h,c,D,E,F⟩:=s;cases D;exact yt (cl:=cl) bndS xs E F hx q (by show 7<=7;decide) de
theorem Zd(hx:xs.length=7)(h:mayS xs=true):(∀x∈xs,0<=x)/\qS (numL [6,2,2,2,2,2,1] xs):=by
 have h1:withinB bndS xs=true:=h;have a0:=zJ h1 (i:=0) de oM;have a1:=zJ h1 (i:=1) de oM;have a2:=zJ h1 (i:=2) de oM;have a3:=zJ h1 (i:=3) de oM;have a4:=zJ h1 (i:=4) de oM;have a5:=zJ h1 (i:=5) de oM;have s:=zJ h1 (i:=6) de oM;simp[bndS]at a0 a1 a2 a3 a4 a5 s;have q:∀i (h1:i<xs.length) (h2:i<[6,2,2,2,2,2,1].length),0<=xs[i]/\xs[i]<256^[6,2,2,2,2,2,1][i]:=by
  intro i j D;rcases i with _|_|_|_|_|_|_|i
  all_goals first|(simp at D;omega)|(simp;omega)
 refine⟨fun x E=>?_,tC (by rw[hx];rfl) de de q⟩;obtain⟨i,j,rfl⟩:=qyv E;exact(q i j (by rw[hx]at j;exact j)).1
theorem Vt(id bl sl q s D E:Int):∀v∈superC id bl sl q s D E,v.oneCell'=true:=by
 intro v j;simp only[superC,qzm,qzy,qYv]at j;rcases j with rfl|rfl|rfl|rfl|rfl|rfl|rfl<;>rfl
theorem xY{D:Type}{enc:D->List Value}{m:Nat}(s:∀x,(enc x).length=m){L:List D}(h:∀j u,(L.flatMap enc)[j]?=some u->w.cell? ⟨g,o+j,none⟩=some u){k:Nat}(q:k<L.length):w.rangeAt g (o+k*m) (enc L[k]):=by
 intro j v E;have F:j<m:=by rw[<-s L[k]];exact(qyl.1 E).1
 rw[qXl];refine h _ v ?_;have:∀(L:List D) (k:Nat) (q:k<L.length),(L.flatMap enc)[k*m+j]?=(enc L[k])[j]?:=by
  intro L
  induction L with
  |nil=>intro k q;simp at q
  |cons x L H=>
   intro k q;rw[qye];cases k with
   |zero=>rw[qYa,qXy,qyg (by rw[s];exact F)];rfl
   |succ k=>
    have e:(k+1)*m+j=m+(k*m+j):=by rw[Nat.succ_mul];omega
    rw[e,qyh (by rw[s];omega),s,Nat.add_sub_cancel_left];exact H k (by simpa using q)
 rw[this L k q];exact E
theorem Xy{xs:List Value}(h:Rd w 64 v n xs)(a6:n<=65536)(F:∀u∈xs,u.oneCell'=true):
  Calls prog 162 #[v] w fun e w'=>∃j,e=.returned j/\Sl w' 54 64 j n xs/\From w.heap.size j/\Below w.heap.size w w':=by
 obtain⟨D,H,E,J,L⟩:=qYu WP;obtain⟨z0,M,O⟩:∃z,D.zero=some z/\z.cells.size=64:=⟨_,E,by simp[bkV,Value.cells,zB,bkC]⟩
 clear E;have Q:=qqh h;obtain⟨q,R,T,c,rfl,s,-⟩:=h;have a7:=fun(w:World) (a:Option Addr) (n c:Nat)=>Lib.run_eql_slice_nil (P:=prog) w 43 54 a n c 0 0 underlying43;cases T with
 |none=>
  obtain rfl:=s rfl;have hx:Hid (xs=[]):=qyb (by simpa using q);clear q s R;go_enter func162,ntmps162
  go_wp2
  go_ret
  rw[hx.out];exact⟨_,rfl,Sl.nil _ _ _,From.nil _ _ _,qxl _ _⟩
 |some a=>
  clear s q;have U:Sl (w.alloc (.cells #[] 54)) 54 64 (.slice (some ⟨w.heap.size,0,none⟩) 0 0) 0 []:=
   ⟨oe,.inr ⟨w.heap.size,0,0,#[],rfl,zc _ _ rfl,oe,by simp[maxLen],oe,oe⟩⟩
  have V:Hid (Rd (w.alloc (.cells #[] 54)) 64 (.slice (some a) n c) n xs):=Q.o.keep ((uur (fun _=>False) _).alloc _) (fun _ _ h=>h);go_enter func162,ntmps162
  go_wp2_with (at_builtin;refine zF rfl _ _ 43 rfl D z0 64 underlying43 H M J L O de rfl U _ n xs rfl V.o F oh oM ?_)
  intro j a8 X Y Z;go_wp2
  go_ret
  refine⟨_,rfl,by simpa using X,?_,?_⟩
  .exact Z.ge oe oE
  .refine zj ((qxl _ _).alloc (qXp _) _) Y (qXp _) oy
theorem zcL:(prog.info? 3).map (fun i=>(i.zero.map (·.cells.size),i.size,i.bytes))=some (some 1,1,8):=kR
theorem Qu(F:List Bk):∀u∈rowC F,u.oneCell'=true:=by
 intro u j;simp only[rowC,qzp]at j;obtain⟨x,-,hx⟩:=j;exact zu x u hx
theorem Qv(P:List Int):∀u∈ints P,u.oneCell'=true:=by
 intro u j;simp only[ints,qzq]at j;obtain⟨x,-,rfl⟩:=j;rfl
theorem zcc{F:List Bk}{O:List (Nat×Bk)}{P:List Int}(h:Dv S w b F O P)(R:∀H,w.heap.size<=H->S H)(M:Rd w 1 vk l.length (ints l))
  (X:∀x∈l,0<=x/\x<=2) (T:P.length+l.length<=65536):
  Calls prog 87 #[.pointer (some ⟨b,0,none⟩),vk] w fun e w'=>e=.returned (.int .i64 0)/\Dv S w' b F O (P++l)/\Upd S w w':=by
 obtain⟨ak,am,ay,h,s⟩:=h;obtain⟨-,-,c2⟩:=h.c;have an:=h.fz 2;obtain⟨Z,a6,rfl⟩:=h.ps.rd.jW;obtain⟨az,ck,rfl⟩:=M.jW;obtain⟨ao,a7,a8⟩:=qYc.1 zcL;simp only[qYe]at a8;obtain⟨aa,ab,ad⟩:=a8;obtain⟨z0,ae,af⟩:=qYc.1 aa;clear aa;have j:=Y6 h s R M X T;have Q:=Y5 a7 ab ad ae af;have aA:l.length<=65536:=oM;clear h s R M X T a7 ab ad ae af;go_enter func87,ntmps87
 go_wp2
 go_loopw[11] (fun i wr=>∃k:Nat,k<=l.length/\i=.int .i64 k/\wr=w) (fun i _=>l.length-(intOf i).toNat)
 case atStart=>exact⟨0,qXz _,rfl,rfl⟩
 case round=>
  obtain⟨k,M,rfl,rfl⟩:=hrel;by_cases hlt:k<l.length
  .obtain ⟨aB,aC,aD,ap,-,ag⟩:=j.o.2.2.2.1.at oM;cases ap;have aq:=ag k (.int .i64 l[k]) (by simp[ints,List.getElem?_eq_getElem hlt]);have hx:=j.o.2.2.2.2.1 l[k] (qyu hlt);generalize l[k]=x at aq hx;obtain⟨aE,aF⟩:=hx;clear ag c2 an;go_wp2
   go_roundw
   case rel=>exact⟨k+1,oM,by go_num,trivial⟩
   case measure=>simp[intOf];omega
  .obtain rfl:k=l.length:=oM;have ar:=qqh (Qv l);have au:=qqh j.o.1.ps;go_wp2_with (first
    |(at_builtin;refine zF rfl _ _ 77 rfl ao z0 8 underlying77 Q.o.1 Q.o.2.2.2.1 Q.o.2.1 Q.o.2.2.1 Q.o.2.2.2.2 de rfl au.out _ l.length (ints l) rfl j.o.2.2.2.1 ar.out (by unfold maxLen;have:=j.o.2.2.2.2.2;omega) (by have:=j.o.2.2.2.2.2;omega) ?_;intro aG U J D q;obtain⟨a2,ah,rfl⟩:=J.rd.jW;replace D:Upd (ownS (.slice Z P.length a6)) wr U:=D;replace q:blockFrom wr (.slice Z P.length a6) (.slice a2 (P.length+l.length) ah):=q;have L:=(D.block b (zd j.o.1.str) (fun h=>j.o.1.pb h)).trans j.o.1.str;have aH:=za L 2;have z3:=zg L 2;have av:=Y4 J D q L;clear J D q L)
    |fail)
   go_ret
   obtain⟨J,D,q,L⟩:=av.o;obtain⟨h,s,R,M,X,T⟩:=j.o;obtain⟨u,aw⟩:∃u:Value,u=.slice a2 (P.length+l.length) ah:=⟨_,rfl⟩
   rw[<-aw]at J q⊢;have ai:u.ownBlock≠some b:=fun e=>by
    rcases q with h1|⟨g,h1,aj⟩
    .exact h.pb (by rw[<-h1];exact e)
    .rw [h1]at e;cases e;have:=zd h.str;omega
   have V:Upd (fun H=>H=b) U (U.setCell ⟨b,2,none⟩ u):=zi _ _ _ _;have ax:Upd S wr U:=D.mono (fun H _ E=>s H (.inr (.inr (.inr E))));refine⟨rfl,⟨ak,am,u,?_,?_⟩,ax.trans (V.mono (fun H _ e=>e▸s b (.inl rfl)))⟩
   .refine ⟨zh L 2 u,(h.fs.keep D (fun g h1 h2=>h.fp g h1 h2)).kA V h.fb,(h.os.keep D (fun g h1 h2=>h.op g h1 h2)).kA V h.ob,?_,?_,h.fb,h.ob,ai,h.fo,(h.fp.symm.from q (fun g Y=>h.fs.lt Y)).symm,(h.op.symm.from q (fun g Y=>h.os.lt Y)).symm⟩
    .rw [qyy];have e:ints (P++l)=ints P++ints l:=by simp[ints]
     rw[e];exact J.kA V ai
    .exact {h.good with pl:=by rw[qyy];exact T}
   .rintro H (rfl|E|E|E)
    .exact s _ (.inl rfl)
    .exact s _ (.inr (.inl E))
    .exact s _ (.inr (.inr (.inl E)))
    .rcases q with h1|⟨g,h1,aj⟩
     .exact s _ (.inr (.inr (.inr (by rw[<-h1];exact E))))
     .rw [h1]at E;cases E;exact R _ aj
end Go.Proofs.YtbnpkobbnjihjaaGreatDoor
