/- A run, op by o -/
import Derived.Test.YtpejdgiccaijfaaGreatDoorG34
import Derived.Test.YtpejdgiccaijfaaGreatDoorG36
import Derived.Test.YtpejdgiccaijfaaGreatDoorG37
namespace Go.Proofs.YtpejdgiccaijfaaGreatDoor
open Go Go.RowKit Tryz
variable{fr m fi d:Int}{kp:Value}
def xR(own:Nat->Nat)(W:World)(r v:Nat)(q:VoP)(n:CaN)(S:View)(N:Nat):Prop:=∃p a,RunAt own W r v q n p a S.md S.cl/\(S.cl=false->Inv15 n a S.v N)/\0<=S.md/\S.md<3
def TX(own:Nat->Nat)(W:World)(r v:Nat)(q:VoP)(n:CaN)(S:View)(N:Nat)(cd:Int)(L:List Bk)(e:Ending)(W':World):Prop:=
 ∃own' u,e=.returned (.agg #[.int .i64 cd,.int .i64 0,u])/\xR own' W' r v q n S N/\DidR r v own own' W W'/\Ro W own' W' u L
section
variable{own own':Nat->Nat}{w w' W W':World}{r v:Nat}{q:VoP}{n:CaN}{p:CaP}{a a':CaS}{md md':Int}{cl cl':Bool}{S:View}{N M:Nat}
theorem zZ.toV{cd:Int}{L:List Bk}{e:Ending}(b:zZ (Sq v q) own W r v n cd 0 L a S.md S.cl e W')(h:S.cl=false->Inv15 n a S.v N)(j:0<=S.md/\S.md<3):TX own W r v q n S N cd L e W':=by
 obtain⟨own',s,A,p,u,rfl,k,d,⟨rfl,rfl⟩,z⟩:=b;exact⟨own',u,rfl,⟨p,a,k,h,j⟩,d,z⟩
theorem Inv15.rdC{v:Nat->Bk}(h:Inv15 n a v N){f:Int}{m:Nat}(F:inS n.bl f m):(∀k,k<m->(CaS.rdC n f a k).2=0)/\CaS.rdN n f a m=a/\CaS.rdL n f a m=(List.range m).map fun(k:Nat)=>v (f+(k:Int)).toNat:=by
 have j:∀k,k<m->(a.kw n (f+(k:Int))).2.2=0/\(a.kw n (f+(k:Int))).1=a/\(a.kw n (f+(k:Int))).2.1=v (f+(k:Int)).toNat:=fun k b=>by
  have L:=Ux F b;obtain⟨s,G⟩:∃s:Nat,f+(k:Int)=(s:Int):=⟨(f+(k:Int)).toNat,oM⟩
  rw[G];obtain⟨-,-,-,-,-,H,A⟩:=h.val.kw (YZ h.nop.1) (YZ h.nop.2) (k:=s) oM;exact⟨(A h.nop).1,(A h.nop).2,H (A h.nop).1⟩
 have D:∀k,k<=m->CaS.rdN n f a k=a:=fun k=>by
  induction k with
  |zero=>exact fun _=>rfl
  |succ k J=>
   intro b;show((CaS.rdN n f a k).kw n (f+(k:Int))).1=a;rw[J oM];exact(j k b).2.1
 have E:∀k,k<m->(CaS.rdC n f a k)=(a.kw n (f+(k:Int))).2:=fun k b=>by
  unfold CaS.rdC;rw[D k oM]
 refine⟨fun k b=>by rw[E k b];exact(j k b).1,D m (qXp _),?_⟩;unfold CaS.rdL;refine List.map_congr_left fun k b=>?_;rw[qzt]at b;rw[E k b];exact(j k b).2.2
def CaN.K(n:CaN):Nat:=12*n.B+n.jo+n.bl*(n.pa+2)+3*n.pa+10
theorem zbu(h:xR own W r v q n S N)(k:kp.oneCell'=true):Calls prog 11 #[ptr r,uJ 0 fr m fi kp] W (TX own W r v q n S N (doCd n S 0 fr m) (doL n S 0 fr m)):=by
 obtain⟨p,a,s,G,H⟩:=h;obtain⟨md,cl,b⟩:=S;have J:∀W:World,(Instr.index 70 (.agg sV) (.int .i64 0)).run prog W=.ok (.func (.func 32) #[] #[]) W:=fun W=>kR;cases cl with
 |true=>
  have e1:doCd n ⟨md,true,b⟩ 0 fr m=16:=rfl;have D:doL n ⟨md,true,b⟩ 0 fr m=[]:=if_neg oJ;rw[e1,D];exact(yQ _ (fun _ _ h=> .inl h.1) s de (fun e=>oM) k J (enters_of func32 kR rfl) (fun O E=>ri (cd:=16) (L:=[]) (a':=a) (md':=md) (cl':=true) (s.new E) k (fun _ _ F=>Xe F))).mono fun e W' h=>h.toV (S:=⟨md,true,b⟩) G H
 |false=>
  by_cases A:inS n.bl fr m
  .obtain ⟨j,rfl⟩:∃j:Nat,m=(j:Int):=⟨m.toNat,by obtain⟨-,h2,-,-⟩:=A;omega⟩
   obtain⟨c1,c2,Q⟩:=(G rfl).rdC A;have e1:doCd n ⟨md,false,b⟩ 0 fr j=0:=if_pos A;have D:doL n ⟨md,false,b⟩ 0 fr j=CaS.rdL n fr a j:=by rw[Q];exact if_pos ⟨e1,rfl⟩
   rw[e1,D];refine(yQ _ (fun _ _ h=> .inl h.1) s de (fun e=>oM) k J (enters_of func32 kR rfl) (fun O E=>ri (cd:=0) (L:=CaS.rdL n fr a j) (a':=CaS.rdN n fr a j) (md':=md) (cl':=false) (s.new E) k (fun _ _ F=>WW F A c1))).mono fun e W' h=>?_;rw[c2]at h;exact h.toV (S:=⟨md,false,b⟩) G H
  .have e1:doCd n ⟨md,false,b⟩ 0 fr m=10:=if_neg A;have D:doL n ⟨md,false,b⟩ 0 fr m=[]:=if_neg oJ;rw[e1,D];exact(yQ _ (fun _ _ h=> .inl h.1) s de (fun e=>oM) k J (enters_of func32 kR rfl) (fun O E=>ri (cd:=10) (L:=[]) (a':=a) (md':=md) (cl':=false) (s.new E) k (fun _ _ F=>Uu F A))).mono fun e W' h=>h.toV (S:=⟨md,false,b⟩) G H
theorem xR.mono(b:xR own W r v q n S N)(h:N<=M):xR own W r v q n S M:=by
 obtain⟨p,a,j,k,s⟩:=b;exact⟨p,a,j,fun e=>(k e).mono h,s⟩
theorem xR.new(b:xR own W r v q n S N)(hu:Upd (fun _=>False) W W'):xR own W' r v q n S N:=by
 obtain⟨p,a,h,j,k⟩:=b;exact⟨p,a,h.new hu,j,k⟩
theorem TX.mono{cd:Int}{L:List Bk}{e:Ending}(b:TX own W r v q n S N cd L e W')(h:N<=M):TX own W r v q n S M cd L e W':=by
 obtain⟨own',u,j,k,s⟩:=b;exact⟨own',u,j,k.mono h,s⟩
theorem zbv(b:xR own W r v q n S N)(j:kp.oneCell'=true)(k:d<0\/13<=d\/(d=1\/d=2)/\(m<1\/64<m)):Calls prog 11 #[ptr r,uJ d fr m fi kp] W (TX own W r v q n S N 1 []):=
 (zfC (r:=r) j k W).mono fun e W' ⟨s,A⟩=>by
  have h:=qqb A;have h2:=b;obtain⟨p,a,D,-,-⟩:=h2;exact⟨own,_,s,b.new h,(D.vo.ca.ko h).toR,Ro.nil _ _ _⟩
theorem EU(h:xR own W r v q n S N)(A:kp.oneCell'=true)(ak:n.bl<=12)(Q:4<=n.jo)(am:N+n.K<=49000)(a8:d=1\/d=2)(J:1<=m/\m<=64):
  Calls prog 11 #[ptr r,uJ d fr m fi kp] W (TX own W r v q n (doS n S d fr m fi) (N+n.K) (doCd n S d fr m) []):=by
 obtain⟨p,a,k,T,L⟩:=h;obtain⟨md,cl,j⟩:=S;obtain⟨b,rfl⟩:∃b:Nat,m=(b:Int):=⟨m.toNat,oM⟩
 have U:b<=64:=oM;have V:∀W:World,(Instr.index 70 (.agg sV) (.int .i64 d)).run prog W=.ok (.func (.func 33) #[] #[]) W:=fun W=>by rcases a8 with rfl|rfl<;>kernel_rfl
 have af:¬(d<0\/13<=d):=oM;have ag:¬((d=1\/d=2)/\¬(1<=(b:Int)/\(b:Int)<=64)):=fun e=>e.2 J;have ah:d<=3:=oM;have Y:∀cl,doCd n ⟨md,cl,j⟩ d fr b=if cl then 16 else if inS n.bl fr b then 0 else 10:=fun cl=>by
  unfold doCd;rw[if_neg af,if_neg ag,if_pos ah]
 have Z:=enters_of func33 kR rfl;cases cl with
 |true=>
  have e1:doCd n ⟨md,true,j⟩ d fr b=16:=Y true;have E:doS n ⟨md,true,j⟩ d fr b fi=⟨md,true,j⟩:=if_pos oJ;rw[e1,E];exact(sW (X:=True) _ (fun _ _ h=> .inl h.1) k oM (fun _=>J) A V Z (fun aa F=>vL (X:=True) (cd:=16) (a':=a) (md':=md) (cl':=true) (k.new F) A U (fun _ _ _ G H=>(Zr G H).mono fun _ _ h=>⟨h,trivial⟩))).mono fun e W' h=>(h.1.toV (S:=⟨md,true,j⟩) T L).mono oM
 |false=>
  by_cases D:inS n.bl fr b
  .have e1:doCd n ⟨md,false,j⟩ d fr b=0:=(Y false).trans (if_pos D);have E:doS n ⟨md,false,j⟩ d fr b fi=⟨md,false,qO j fr (fillL fr fi b) b⟩:=by
    unfold doS;rw[e1,if_neg (fun e=>e rfl),if_pos a8];rfl
   have s:=RI fr fi b;have ab:inS n.bl fr (fillL fr fi b).length:=by rw[s];exact D
   have an:b<=n.bl:=by obtain⟨-,-,ai,-⟩:=D;omega
   have ao:b*n.B<=12*n.B:=qXv _ oM;have ap:n.K=12*n.B+n.jo+n.bl*(n.pa+2)+3*n.pa+10:=rfl;have aj:fillW fr fi b=fillL fr fi b:=by
    obtain⟨h1,-,ai,aq⟩:=D;have:=k.vo.ca.ok.b2;exact EM h1 oM
   rw[e1,E];refine(sW _ (fun _ _ h=> .inl h.1) k oM (fun _=>J) A V Z (fun aa F=>vL (cd:=0) (a':=CaS.wrF n md fr (fillL fr fi b) a (d==2)) (md':=md) (cl':=false) (k.new F) A U (fun _ _ _ G H=>WV (I:=fun ad ae=>Inv15 n ae (qO j fr (fillL fr fi b) ad) (N+ad*n.B)) G ab (WX _ _ _) (by rw[<-aj];exact H)
    (EP Q L ab (by rw[s];omega)) (by rw[qYa];exact T rfl) (fun ae a6 O _=>by rw[s]at a6;exact⟨⟨_,a6.fit,oM⟩,fun _=>(a6.j9 O Q).1⟩)))).mono fun e W' ⟨h,a7,O,_⟩=>?_
   rw[s]at a7 O;refine h.toV (S:=⟨md,false,_⟩) (fun _=>?_) L;unfold CaS.wrF;rw[s];split
   .exact (a7.j9 O Q).2.mono oM
   .exact a7.mono oM
  .have e1:doCd n ⟨md,false,j⟩ d fr b=10:=(Y false).trans (if_neg D);have E:doS n ⟨md,false,j⟩ d fr b fi=⟨md,false,j⟩:=if_pos oJ;have s:=ui fr fi b;rw[e1,E];exact(sW (X:=True) _ (fun _ _ h=> .inl h.1) k oM (fun _=>J) A V Z (fun aa F=>vL (X:=True) (cd:=10) (a':=a) (md':=md) (cl':=false) (k.new F) A U (fun _ _ _ G H=>(WY G (by rw[s];exact D) oM oM H).mono fun _ _ h=>⟨h,trivial⟩))).mono fun e W' h=>(h.1.toV (S:=⟨md,false,j⟩) T L).mono oM
theorem Uy(h:xR own W r v q n S N)(s:kp.oneCell'=true)(V:n.bl<=12)(X:N+n.K<=49000):
  Calls prog 11 #[ptr r,uJ 3 fr m fi kp] W (TX own W r v q n (doS n S 3 fr m fi) (N+n.K) (doCd n S 3 fr m) []):=by
 obtain⟨p,a,A,G,H⟩:=h;obtain⟨md,cl,b⟩:=S;have J:∀W:World,(Instr.index 70 (.agg sV) (.int .i64 3)).run prog W=.ok (.func (.func 34) #[] #[]) W:=fun W=>kR;have L:=enters_of func34 kR rfl;cases cl with
 |true=>
  have e1:doCd n ⟨md,true,b⟩ 3 fr m=16:=rfl;have D:doS n ⟨md,true,b⟩ 3 fr m fi=⟨md,true,b⟩:=if_pos oJ;rw[e1,D];exact(yQ _ (fun _ _ h=> .inl h.1) A de (fun e=>oM) s J L (fun O E=>sY (cd:=16) (a':=a) (md':=md) (cl':=true) (A.new E) s (fun _ F=>(qP F).mono fun _ _ h=>h.toR))).mono fun e W' h=>(h.toV (S:=⟨md,true,b⟩) G H).mono oM
 |false=>
  by_cases k:inS n.bl fr m
  .obtain ⟨j,rfl⟩:∃j:Nat,m=(j:Int):=⟨m.toNat,by obtain⟨-,h2,-,-⟩:=k;omega⟩
   have e1:doCd n ⟨md,false,b⟩ 3 fr j=0:=if_pos k;have D:doS n ⟨md,false,b⟩ 3 fr j fi=⟨md,false,qO b fr [] j⟩:=by
    unfold doS;rw[e1,if_neg (fun e=>e rfl)];rfl
   have Y:j<=n.bl:=by obtain⟨-,-,Z,-⟩:=k;omega
   have a6:j*n.B<=12*n.B:=qXv _ oM;have a7:n.K=12*n.B+n.jo+n.bl*(n.pa+2)+3*n.pa+10:=rfl;rw[e1,D];refine(sW _ (fun _ _ h=> .inl h.1) A de (fun e=>oM) s J L (fun O E=>qK (cd:=0) (a':=CaS.goN n fr a j) (md':=md) (cl':=false) (A.new E) s (fun _ F=>(Uw (I:=fun Q T=>Inv15 n T (qO b fr [] Q) (N+Q*n.B)) F k (EQ k oM) (by rw[qYa];exact G rfl)).mono fun _ _ h=>⟨h.1.toR,h.2⟩))).mono fun e W' ⟨h,U⟩=>?_;exact h.toV (S:=⟨md,false,_⟩) (fun _=>U.mono oM) H
  .have e1:doCd n ⟨md,false,b⟩ 3 fr m=10:=if_neg k;have D:doS n ⟨md,false,b⟩ 3 fr m fi=⟨md,false,b⟩:=if_pos oJ;rw[e1,D];exact(yQ _ (fun _ _ h=> .inl h.1) A de (fun e=>oM) s J L (fun O E=>sY (cd:=10) (a':=a) (md':=md) (cl':=false) (A.new E) s (fun _ F=>(Zp F k).mono fun _ _ h=>h.toR))).mono fun e W' h=>(h.toV (S:=⟨md,false,b⟩) G H).mono oM
theorem EV(h:xR own W r v q n S N)(k:kp.oneCell'=true)(J:4<=n.jo)(O:N+n.K<=49000):
  Calls prog 11 #[ptr r,uJ 4 fr m fi kp] W (TX own W r v q n (doS n S 4 fr m fi) (N+n.K) (doCd n S 4 fr m) []):=by
 obtain⟨p,a,j,s,F⟩:=h;obtain⟨md,cl,b⟩:=S;have Q:n.K=12*n.B+n.jo+n.bl*(n.pa+2)+3*n.pa+10:=rfl;have G:∀W:World,(Instr.index 70 (.agg sV) (.int .i64 4)).run prog W=.ok (.func (.func 35) #[] #[]) W:=fun W=>kR;have H:=enters_of func35 kR rfl;cases cl with
 |true=>
  have e1:doCd n ⟨md,true,b⟩ 4 fr m=16:=rfl;have A:doS n ⟨md,true,b⟩ 4 fr m fi=⟨md,true,b⟩:=if_pos oJ;rw[e1,A];exact(yQ _ (fun _ _ h=> .inl h.1) j de (fun e=>oM) k G H (fun L D=>WZ (cd:=16) (a':=a) (md':=md) (cl':=true) (j.new D) k (fun _ E=>(Zq E).mono fun _ _ h=>h.toR))).mono fun e W' h=>(h.toV (S:=⟨md,true,b⟩) s F).mono oM
 |false=>
  have e1:doCd n ⟨md,false,b⟩ 4 fr m=0:=rfl;have A:doS n ⟨md,false,b⟩ 4 fr m fi=⟨md,false,b⟩:=rfl;obtain⟨c1,c2⟩:=(s rfl).j9 j.vo.ca.jg J;have T:=j.vo.ca.jg.len;have U:=j.vo.ca.ok.j2;have V:=(s rfl).fit.dO;rw[e1,A];exact(yQ _ (fun _ _ h=> .inl h.1) j de (fun e=>oM) k G H (fun L D=>WZ (cd:=0) (a':=(a.j9 n).1) (md':=md) (cl':=false) (j.new D) k (fun _ E=>(WU E (s rfl).fit.w1 oM).mono fun _ _ h=>by rw[c1]at h;exact h.toR))).mono fun e W' h=>(h.toV (S:=⟨md,false,b⟩) (fun _=>c2) F).mono oM
theorem TY(h:xR own W r v q n S N)(k:kp.oneCell'=true)(hsl:2<=n.sl)(O:N+n.bl*(n.pa+2)<=49000):
  Calls prog 11 #[ptr r,uJ 7 fr m fi kp] W (TX own W r v q n (doS n S 7 fr m fi) (N+n.bl*(n.pa+2)) (doCd n S 7 fr m) []):=by
 obtain⟨p,a,j,s,F⟩:=h;obtain⟨md,cl,b⟩:=S;have Q:n.K=12*n.B+n.jo+n.bl*(n.pa+2)+3*n.pa+10:=rfl;have G:∀W:World,(Instr.index 70 (.agg sV) (.int .i64 7)).run prog W=.ok (.func (.func 38) #[] #[]) W:=fun W=>kR;have H:=enters_of func38 kR rfl;cases cl with
 |true=>
  have e1:doCd n ⟨md,true,b⟩ 7 fr m=16:=rfl;have A:doS n ⟨md,true,b⟩ 7 fr m fi=⟨md,true,b⟩:=if_pos oJ;rw[e1,A];exact(yQ _ (fun _ _ h=> .inl h.1) j de (fun e=>oM) k G H (fun J D=>TT (cd:=16) (a':=a) (md':=md) (cl':=true) (j.new D) k (fun _ E=>(Xc E).mono fun _ _ h=>h.toR))).mono fun e W' h=>(h.toV (S:=⟨md,true,b⟩) s F).mono oM
 |false=>
  have e1:doCd n ⟨md,false,b⟩ 7 fr m=0:=rfl;have A:doS n ⟨md,false,b⟩ 7 fr m fi=⟨md,false,b⟩:=rfl;obtain⟨c2,-,L⟩:=(s rfl).tick j.vo.ca.nx1 1 0 2;have c1:=(L ⟨de,de,oM,de,de⟩).1;rw[e1,A];exact(yQ _ (fun _ _ h=> .inl h.1) j de (fun e=>oM) k G H (fun J D=>TT (cd:=0) (a':=(a.tick n 1 0 2).1) (md':=md) (cl':=false) (j.new D) k (fun _ E=>(zbp E (s rfl).fit oM (s rfl).tie c1).mono fun _ _ h=>h.toR))).mono fun e W' h=>(h.toV (S:=⟨md,false,b⟩) (fun _=>c2) F).mono oM
theorem zbw(h:xR own W r v q n S N)(j:kp.oneCell'=true)(_:N+n.K<=49000):
  Calls prog 11 #[ptr r,uJ 9 fr m fi kp] W (TX own W r v q n (doS n S 9 fr m fi) (N+n.K) (doCd n S 9 fr m) []):=by
 obtain⟨p,a,k,E,J⟩:=h;obtain⟨md,cl,b⟩:=S;have O:n.K=12*n.B+n.jo+n.bl*(n.pa+2)+3*n.pa+10:=rfl;have F:∀W:World,(Instr.index 70 (.agg sV) (.int .i64 9)).run prog W=.ok (.func (.func 40) #[] #[]) W:=fun W=>kR;have G:=enters_of func40 kR rfl;cases cl with
 |true=>
  have e1:doCd n ⟨md,true,b⟩ 9 fr m=16:=rfl;have s:doS n ⟨md,true,b⟩ 9 fr m fi=⟨md,true,b⟩:=if_pos oJ;rw[e1,s];exact(yQ _ (fun _ _ h=> .inl h.1) k de (fun e=>oM) j F G (fun L A=>Xa (cd:=16) (a':=a) (md':=md) (cl':=true) (k.new A) j (fun _ D=>(Xd D).mono fun _ _ h=>h.toR))).mono fun e W' h=>(h.toV (S:=⟨md,true,b⟩) E J).mono oM
 |false=>
  by_cases H:0<=fr/\fr<=2
  .have e1:doCd n ⟨md,false,b⟩ 9 fr m=0:=if_pos H;have s:doS n ⟨md,false,b⟩ 9 fr m fi=⟨fr,false,b⟩:=by
    unfold doS;rw[e1,if_neg (fun e=>e rfl)];rfl
   rw[e1,s];exact(yQ _ (fun _ _ h=> .inl h.1) k de (fun e=>oM) j F G (fun L A=>Xa (cd:=0) (a':=a) (md':=fr) (cl':=false) (k.new A) j (fun _ D=>zbo D oM))).mono fun e W' h=>(h.toV (S:=⟨fr,false,b⟩) E (by show 0<=fr/\fr<3;omega)).mono oM
  .have e1:doCd n ⟨md,false,b⟩ 9 fr m=1:=if_neg H;have s:doS n ⟨md,false,b⟩ 9 fr m fi=⟨md,false,b⟩:=if_pos oJ;rw[e1,s];exact(yQ _ (fun _ _ h=> .inl h.1) k de (fun e=>oM) j F G (fun L A=>Xa (cd:=1) (a':=a) (md':=md) (cl':=false) (k.new A) j (fun _ D=>(Uv D H).mono fun _ _ h=>h.toR))).mono fun e W' h=>(h.toV (S:=⟨md,false,b⟩) E J).mono oM
theorem RO(h:xR own W r v q n S N)(j:kp.oneCell'=true)(J:n.bl<=12)(L:4<=n.jo)(O:n.jo<=12)(T:N+n.K<=40000):
  Calls prog 11 #[ptr r,uJ 10 fr m fi kp] W (TX own W r v q n (doS n S 10 fr m fi) (N+n.K) (doCd n S 10 fr m) []):=by
 obtain⟨p,a,k,E,F⟩:=h;obtain⟨md,cl,b⟩:=S;have U:n.K=12*n.B+n.jo+n.bl*(n.pa+2)+3*n.pa+10:=rfl;have G:∀W:World,(Instr.index 70 (.agg sV) (.int .i64 10)).run prog W=.ok (.func (.func 41) #[] #[]) W:=fun W=>kR;have H:=enters_of func41 kR rfl;cases cl with
 |true=>
  have e1:doCd n ⟨md,true,b⟩ 10 fr m=16:=rfl;have s:doS n ⟨md,true,b⟩ 10 fr m fi=⟨md,true,b⟩:=if_pos oJ;rw[e1,s];exact(yQ _ (fun _ _ h=> .inl h.1) k de (fun e=>oM) j G H (fun Q A=>Yc (cd:=16) (a':=a) (md':=md) (cl':=true) (k.new A) j (fun _ D=>(sZ D).mono fun _ _ h=>h.toR))).mono fun e W' h=>(h.toV (S:=⟨md,true,b⟩) E F).mono oM
 |false=>
  have e1:doCd n ⟨md,false,b⟩ 10 fr m=0:=rfl;have s:doS n ⟨md,false,b⟩ 10 fr m fi=⟨md,true,b⟩:=rfl;rw[e1,s];exact(yQ _ (fun _ _ h=> .inl h.1) k de (fun e=>oM) j G H (fun Q A=>Yc (cd:=0) (md':=md) (cl':=true) (k.new A) j (fun _ D=>RM D (E rfl) J L O oM))).mono fun e W' h=>(h.toV (N:=N) (S:=⟨md,true,b⟩) (fun e=>by cases e) F).mono oM
theorem zhd(h:xR own W r v q n S N)(b:kp.oneCell'=true)(k:n.bl<=12)(s:4<=n.jo)(D:n.jo<=12)(hsl:2<=n.sl)(E:N+n.K<=40000)(Q:d<11\/13<=d)(T:d≠5)(U:d≠6)(V:d≠8):
  Calls prog 11 #[ptr r,uJ d fr m fi kp] W (TX own W r v q n (doS n S d fr m fi) (N+n.K) (doCd n S d fr m) (doL n S d fr m)):=by
 by_cases F:d<0\/13<=d\/(d=1\/d=2)/\(m<1\/64<m)
 .have e1:doCd n S d fr m=1:=by
   unfold doCd;by_cases h1:d<0\/13<=d
   .exact if_pos h1
   .rw [if_neg h1];exact if_pos ⟨oM,oM⟩
  have A:doS n S d fr m fi=S:=if_pos oJ;have j:doL n S d fr m=[]:=if_neg (by rw[e1];exact fun e=>by cases e.1);rw[e1,A,j];exact(zbv h b F).mono fun e W' h=>h.mono oM
 .have j:d≠0->doL n S d fr m=[]:=fun G=>if_neg (fun e=>G e.2);have H:d=0\/(d=1\/d=2)/\(1<=m/\m<=64)\/d=3\/d=4\/d=7\/d=9\/d=10:=oM;rcases H with rfl|⟨J,L⟩|rfl|rfl|rfl|rfl|rfl
  .refine (zbu h b).mono fun e W' h=>?_;have A:doS n S 0 fr m fi=S:=by
    unfold doS;split
    .rfl
    .rfl
   rw[A];exact h.mono oM
  .rw [j oM];exact EU h b k s oM J L
  .rw [j de];exact Uy h b k oM
  .rw [j de];exact EV h b s oM
  .rw [j de];exact(TY h b hsl (by have O:n.K=12*n.B+n.jo+n.bl*(n.pa+2)+3*n.pa+10:=rfl;omega)).mono fun e W' h=>h.mono (by have O:n.K=12*n.B+n.jo+n.bl*(n.pa+2)+3*n.pa+10:=rfl;omega)
  .rw [j de];exact zbw h b oM
  .rw [j de];exact RO h b k s D E
end
end Go.Proofs.YtpejdgiccaijfaaGreatDoor
