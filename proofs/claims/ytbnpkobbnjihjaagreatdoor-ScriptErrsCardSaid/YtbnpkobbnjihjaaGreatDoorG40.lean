/- A new run: its -/
import Derived.Test.YtbnpkobbnjihjaaGreatDoorG38
import Derived.Test.YtbnpkobbnjihjaaGreatDoorG37
import Derived.Test.YtbnpkobbnjihjaaGreatDoorG39
import Derived.Test.YtbnpkobbnjihjaaGreatDoorG34
set_option maxHeartbeats 1000000
namespace Go.Proofs.YtbnpkobbnjihjaaGreatDoor
open Go Go.RowKit Tryz
variable{n:CaN}
theorem qJ(n:CaN):Inv0 n (attS n) 3:=⟨(Tz n).fit,(Tz n).tie,tn n⟩
theorem Ak(n:CaN){k:Int}(j:0<=k/\k<(n.bl:Int)):getC (attS n).ps k=14:=by
 have b:(attS n).ps=List.replicate n.bl (-1,false):=by rw[vR];rfl
 unfold getC;rw[b,if_neg jq,if_pos (wk _ _)]
theorem Zz(n:CaN):dirtL (attS n).ps=[]:=by
 have b:(attS n).ps=List.replicate n.bl (-1,false):=by rw[vR];rfl
 rw[b];refine List.filter_eq_nil_iff.2 fun h _=>?_;rw[plc,qyf,qyn];split<;>exact Bool.false_ne_true
theorem xA(n:CaN):(attS n).dO=[]/\(attS n).bO=[]/\(attS n).bF.length=n.bl:=by
 rw[vR];exact⟨rfl,rfl,qzd⟩
theorem WN(s:n.Ok)(A:mayS n.I=true):Tel n (attS n).dF [] (fun D wh E=>D=[]/\wh=1/\E=1):=by
 have b:=Tt (O:=[]) (F:=List.replicate n.size zB) s A qzd;have j:=b.nw;have h:=Tel.again b.tel (wh:=0) (sq:=0) (M:=[]) ⟨fun x hx=>(by cases hx),qzx,List.Pairwise.nil⟩ oM oM (by rw[j]) (by rw[j]) (by rw[j];exact qXp _) (fun r k=>by
  have G:scanTo (fmtF n (List.replicate n.size zB) []) [] n.jb n.jo n.jo=[]:=b.js;rw[G]at k;cases k)
 have e:(attS n).dF=telF n (fmtF n (List.replicate n.size zB) []) 0 0 []:=by
  rw[vR];unfold telF;rw[Nat.sub_zero,Nat.one_mul]
 rw[e];exact h
def crS(n:CaN):CaS:=((qo n 1 1 (attS n).dF [] (attS n).bF [] []).ckpt n).1
theorem Al(b:n.Ok)(h:mayS n.I=true){own:Nat->Nat}{w:World}{x y:Nat}(j:Dvs own w x y (attS n).dF [] (attS n).bF [] []):Calls prog 34 #[ptr x,ptr y] w (ti own w x y n (crS n)):=
 (sk j (WN b h) (xA n).2.2).mono fun e w' ⟨A,wh,D,⟨h1,h2,k⟩,s⟩=>by
  subst h1;subst h2;subst k;exact s
theorem Am{own:Nat->Nat}{w:World}{q:VoP}{p:CaP}(b:n.Ok)(h:mayS n.I=true)(j:L3At own w q.li q.lc q.lf n p.ssd):NoL own w q n p (attS n):=
 ⟨j,(tn n).1,fun k s=>by rw[(xA n).1];exact(WN b h).zs k s,by rw[(xA n).1];decide⟩
def tQ(B:Nat)(w:World)(cd:Int)(e:Ending)(w':World):Prop:=∃(nn:Int) (ao:Option Addr) (k c:Nat),e=.returned (.agg #[.int .i64 cd,.int .i64 nn,.slice ao k c])/\Below B w w'
structure NewB(B:Nat)(own:Nat->Nat)(w:World)(r v:Nat)(q:VoP):Prop where
 o:∀j,j<B->own j=0
 r:B<=r
 v:B<=v
 m:B<=q.mb
 s:B<=w.heap.size
def errC(n:CaN)(d fr m fi:Int):Int:=
 if d<0\/13<=d then 1 else if(d=1\/d=2)/\¬(1<=m/\m<=64)then 1 else if d<=3\/d=5 then(if inS n.bl fr m then 0 else 10)
 else if d=6 then 14 else if d=9 then(if 0<=fr/\fr<=2 then 0 else 1)else if d=11/\((fr≠0/\fr≠1)\/(m<0\/64<m)\/0<m/\(fi<0\/2<fi))then 1 else 0
section
variable{B:Nat}{own own':Nat->Nat}{w w':World}{r v:Nat}{q:VoP}{n:CaN}{p:CaP}{a a':CaS}{md:Int}{cl:Bool}{d fr m fi cd nn:Int}{kp:Value}{e:Ending}
theorem yg.err{Rq:Nat->VoP->Prop}{L:List Bk}(j:yg Rq own w r v n cd nn L a md cl e w')(h:NewB B own w r v q):tQ B w cd e w':=by
 obtain⟨own',E,F,G,u,rfl,H,k,-,z⟩:=j;obtain⟨A,c,rfl⟩:=z.1.rd.jW;refine⟨_,A,_,c,rfl,zj (qxl B w) k.upd h.s (fun D b=>?_)⟩;rcases b with b|b|b
 .exact Nat.le_of_not_lt fun j=>b.1 (h.o D j)
 .rw [b];exact h.r
 .rw [b];exact h.v
theorem DoW.err(j:DoW (WK own v q) w cd nn e w')(h:NewB B own w r v q):tQ B w cd e w':=by
 obtain⟨rfl,k⟩:=j;refine⟨_,none,0,0,rfl,zj (qxl B w) k h.s (fun A b=>?_)⟩;rcases b with⟨b|b|b,-⟩|b
 .exact Nat.le_of_not_lt fun j=>b.1 (h.o A j)
 .rw [b];exact h.v
 .rw [b];exact h.m
 .exact qXr h.s b
abbrev IxD(d:Int)(fd:Nat):Prop:=∀W:World,(Instr.index 72 (.agg Rm) (.int .i64 d)).run prog W=.ok (.func (.func fd) #[] #[]) W
abbrev EntD(fd:Nat):Prop:=∀args w,(callFunc fd args).run prog w=.ok (.enter fd args) w
theorem wT{L:List Bk}{Rq:Nat->VoP->Prop}(fd:Nat)(k:NewB B own w r v q)(b:RunAt own w r v q n p a md cl)(s:0<=d/\d<13)(A:d=1\/d=2->1<=m/\m<=64)(D:kp.oneCell'=true)(E:∀h F,Rq h F->h=v\/w.heap.size<=h)(G:IxD d fd)(H:EntD fd)
  (J:∀j,Upd (fun _=>False) w j->Calls prog fd #[ptr r,xI d fr m fi kp] j (yg Rq own j r v n cd nn L a' md cl)):Calls prog 10 #[ptr r,xI d fr m fi kp] w (tQ B w cd):=
 (qk (md':=md) (cl':=cl) fd E b s A D G H J).mono fun _ _ b=>b.err k
end
section
variable{B:Nat}{own:Nat->Nat}{w:World}{r v:Nat}{q:VoP}{n:CaN}{p:CaP}{d fr m fi:Int}{kp:Value}
theorem Ao(E:NewB B own w r v q)(h:RunAt own w r v q n p (attS n) 0 false)(k:kp.oneCell'=true):Calls prog 10 #[ptr r,xI 0 fr m fi kp] w (tQ B w (if inS n.bl fr m then 0 else 10)):=by
 have F:IxD 0 41:=fun M=>kR;by_cases b:inS n.bl fr m
 .obtain ⟨j,rfl⟩:∃j:Nat,m=(j:Int):=⟨m.toNat,by obtain⟨-,h2,-,-⟩:=b;omega⟩
  rw[if_pos b];have G:∀i,i<j->((attS n).j9 n (fr+(i:Int))).2.2=0/\((attS n).j9 n (fr+(i:Int))).1=attS n:=fun i s=>(tn n).j9 (Ak n (YL b s));have H:∀i,i<=j->CaS.rdN n fr (attS n) i=attS n:=fun i=>by
   induction i with
   |zero=>exact fun _=>rfl
   |succ i J=>
    intro s;show((CaS.rdN n fr (attS n) i).j9 n (fr+(i:Int))).1=attS n;rw[J oM];exact(G i oM).2
  exact wT (a':=CaS.rdN n fr (attS n) j) _ E h de (fun e=>oM) k (fun _ _ h=> .inl h.1) F (enters_of func41 kR rfl) (fun K A=>YF (L:=CaS.rdL n fr (attS n) j) (h.new A) k (fun _ _ D=>WB D b (fun i s=>by
   unfold CaS.rdC;rw[H i oM];exact(G i s).1)))
 .rw [if_neg b];exact wT (a':=attS n) (L:=[]) _ E h de (fun e=>oM) k (fun _ _ h=> .inl h.1) F (enters_of func41 kR rfl) (fun K A=>YF (L:=[]) (h.new A) k (fun _ _ D=>Uh D b))
theorem RA(G:NewB B own w r v q)(h:RunAt own w r v q n p (attS n) 0 false)(s:kp.oneCell'=true)(Y:n.bl<=12)(H:4<=n.jo)(Z:3+12*n.B0+n.jo<=40000)(R:d=1\/d=2)(J:1<=m/\m<=64):
  Calls prog 10 #[ptr r,xI d fr m fi kp] w (tQ B w (if inS n.bl fr m then 0 else 10)):=by
 obtain⟨b,rfl⟩:∃b:Nat,m=(b:Int):=⟨m.toNat,oM⟩
 have K:b<=64:=oM;have M:IxD d 42:=fun a6=>by rcases R with rfl|rfl<;>kernel_rfl
 have N:EntD 42:=enters_of func42 kR rfl;by_cases j:inS n.bl fr b
 .have k:=Rr fr fi b;have O:inS n.bl fr (fillL fr fi b).length:=by rw[k];exact j
  have a7:b<=n.bl:=by obtain⟨-,-,S,-⟩:=j;omega
  have a8:b*n.B0<=12*n.B0:=qXv _ oM;have T:fillW fr fi b=fillL fr fi b:=by
   obtain⟨h1,-,S,aa⟩:=j;have:=h.vo.ca.ok.b2;exact EK h1 oM
  rw[if_pos j];exact wT (a':=CaS.wrF n 0 fr (fillL fr fi b) (attS n) (d==2)) (L:=[]) _ G h oM (fun _=>J) s (fun _ _ h=> .inl h.1) M N (fun U A=>(tk (X:=True) (cd:=0) (a':=CaS.wrF n 0 fr (fillL fr fi b) (attS n) (d==2)) (md':=0) (cl':=false) (h.new A) s K (fun _ _ _ D E=>(WA (I:=fun V Q=>Inv0 n Q (3+V*n.B0)) D rfl O (EL _ _ _) (by rw[<-T];exact E)
   (zgc H O (by rw[k];omega)) (by rw[qYa];exact qJ n) (fun Q F W _=>by rw[k]at F;exact⟨⟨_,F.fit,oM⟩,fun _=>(F.jZ W H).1⟩)).mono fun _ _ h=>⟨h.1,trivial⟩)).mono fun _ _ h=>h.1)
 .have k:=vQ fr fi b;rw[if_neg j];exact wT (a':=attS n) (L:=[]) _ G h oM (fun _=>J) s (fun _ _ h=> .inl h.1) M N (fun U A=>(tk (X:=True) (cd:=10) (a':=attS n) (md':=0) (cl':=false) (h.new A) s K (fun _ _ _ D E=>(WC D (by rw[k];exact j) oM oM E).mono fun _ _ h=>⟨h,trivial⟩)).mono fun _ _ h=>h.1)
theorem WO(D:NewB B own w r v q)(h:RunAt own w r v q n p (attS n) 0 false)(k:kp.oneCell'=true)(K:n.bl<=12)(M:3+12*n.B0+n.jo<=40000):
  Calls prog 10 #[ptr r,xI 3 fr m fi kp] w (tQ B w (if inS n.bl fr m then 0 else 10)):=by
 have E:IxD 3 43:=fun N=>kR;have F:EntD 43:=enters_of func43 kR rfl;by_cases b:inS n.bl fr m
 .obtain ⟨j,rfl⟩:∃j:Nat,m=(j:Int):=⟨m.toNat,by obtain⟨-,h2,-,-⟩:=b;omega⟩
  have O:j<=n.bl:=by obtain⟨-,-,Q,-⟩:=b;omega
  have R:j*n.B0<=12*n.B0:=qXv _ oM;rw[if_pos b];exact wT (a':=CaS.goN n fr (attS n) j) (L:=[]) _ D h de (fun e=>oM) k (fun _ _ h=> .inl h.1) E F (fun G s=>sh (cd:=0) (a':=CaS.goN n fr (attS n) j) (md':=0) (cl':=false) (h.new s) k (fun _ A=>(Up (I:=fun H J=>Inv0 n J (3+H*n.B0)) A b (zgd b oM) (by rw[qYa];exact qJ n)).mono fun _ _ h=>h.1.toR))
 .rw [if_neg b];exact wT (a':=attS n) (L:=[]) _ D h de (fun e=>oM) k (fun _ _ h=> .inl h.1) E F (fun G s=>sh (cd:=10) (a':=attS n) (md':=0) (cl':=false) (h.new s) k (fun _ A=>(sJ A b).mono fun _ _ h=>h.toR))
theorem RB(k:NewB B own w r v q)(h:RunAt own w r v q n p (attS n) 0 false)(j:kp.oneCell'=true)(s:4<=n.jo):
  Calls prog 10 #[ptr r,xI 4 fr m fi kp] w (tQ B w 0):=by
 have b:=qJ n;obtain⟨c1,-⟩:=b.jZ h.vo.ca.jg s;have E:=h.vo.ca.jg.len;have F:=h.vo.ca.ok.j2;have G:=b.fit.dO;exact wT (a':=((attS n).jZ n).1) (L:=[]) _ k h de (fun e=>oM) j (fun _ _ h=> .inl h.1) (fun H=>kR) (enters_of func44 kR rfl) (fun J A=>EH (cd:=0) (a':=((attS n).jZ n).1) (md':=0) (cl':=false) (h.new A) j (fun _ D=>(Wz D b.fit.w1 oM).mono fun _ _ h=>by rw[c1]at h;exact h.toR))
theorem Ap(k:NewB B own w r v q)(h:RunAt own w r v q n p (attS n) 0 false)(b:kp.oneCell'=true)(hsl:2<=n.sl):
  Calls prog 10 #[ptr r,xI 7 fr m fi kp] w (tQ B w 0):=
 wT (a':=attS n) (L:=[]) _ k h de (fun e=>oM) b (fun _ _ h=> .inl h.1) (fun D=>kR) (enters_of func47 kR rfl) (fun E s=>zby (cd:=0) (a':=attS n) (md':=0) (cl':=false) (h.new s) b (fun _ j=>(Aj j (fun F A=>Ai (j.ca.new A) hsl (Zz n))).mono fun _ _ h=>h.toR))
theorem Aq(A:NewB B own w r v q)(h:RunAt own w r v q n p (attS n) 0 false)(b:kp.oneCell'=true):
  Calls prog 10 #[ptr r,xI 9 fr m fi kp] w (tQ B w (if 0<=fr/\fr<=2 then 0 else 1)):=by
 have D:IxD 9 49:=fun G=>kR;have E:EntD 49:=enters_of func49 kR rfl;by_cases j:0<=fr/\fr<=2
 .rw [if_pos j];exact(qk (Rq:=Sq v q) (L:=[]) (cd:=0) (nn:=0) (a':=attS n) (md':=fr) (cl':=false) _ (fun _ _ h=> .inl h.1) h de (fun e=>oM) b D E (fun F k=>Tu (cd:=0) (a':=attS n) (md':=fr) (cl':=false) (h.new k) b (fun _ s=>zbQ s oM))).mono fun _ _ h=>h.err A
 .rw [if_neg j];exact wT (a':=attS n) (L:=[]) _ A h de (fun e=>oM) b (fun _ _ h=> .inl h.1) D E (fun F k=>Tu (cd:=1) (a':=attS n) (md':=0) (cl':=false) (h.new k) b (fun _ s=>(Ui s j).mono fun _ _ h=>h.toR))
theorem Ur(s:NewB B own w r v q)(h:RunAt own w r v q n p (attS n) 0 false)(j:kp.oneCell'=true)(A:4<=n.jo)(E:3+12*n.B0+n.jo<=40000):
  Calls prog 10 #[ptr r,xI 10 fr m fi kp] w (tQ B w 0):=by
 have b:=qJ n;obtain⟨c1,c2⟩:=b.jZ h.vo.ca.jg A;have F:=h.vo.ca.jg.len;have G:=h.vo.ca.ok.j2;have H:=b.fit.dO;exact(qk (Rq:=Sq v q) (L:=[]) (cd:=0) (nn:=0) (a':=(((attS n).jZ n).1.ckpt n).1) (md':=0) (cl':=true) _ (fun _ _ h=> .inl h.1) h de (fun e=>oM) j (fun J=>kR) (enters_of func50 kR rfl) (fun K D=>Rp (cd:=0) (md':=0) (cl':=true) (h.new D) j (fun _ k=>Uq k (Ry k.ca (Zz n) b.fit.w1 oM c1) c2.fit oM (CaS.NoP.ckpt c2.nop)))).mono fun _ _ h=>h.err s
theorem RC{ak:Option Addr}{nk ck:Nat}(j:NewB B own w r v q)(h:RunAt own w r v q n p (attS n) 0 false)(hsl:2<=n.sl)(k:mayS n.I=true):
  Calls prog 10 #[ptr r,xI 12 fr m fi (.slice ak nk ck)] w (tQ B w 0):=
 (qk (Rq:=fun s _=>w.heap.size<=s) (L:=[]) (cd:=0) (nn:=0) (a':=crS n) (md':=0) (cl':=false) _ (fun _ _ h=> .inr h) h de (fun e=>oM) rfl (fun D=>kR) (enters_of func52 kR rfl) (fun E b=>WF (B:=w.heap.size) (by rw[(xA n).1,(xA n).2.1];simp only[qzc];exact⟨oM,oM⟩) b.size (h.new b) hsl (fun _ _ _ _ A=>Al h.vo.ca.ok k A))).mono fun _ _ h=>h.err j
theorem zeg{ak:Option Addr}{nk ck:Nat}(b:NewB B own w r v q)(h:RunAt own w r v q n p (attS n) 0 false)(K:L3At own w q.li q.lc q.lf n p.ssd)(j:n.bl<=12)(k:4<=n.jo)(hsl:2<=n.sl)(H:mayS n.I=true)(A:3+12*n.B0+n.jo<=40000):
  Calls prog 10 #[ptr r,xI d fr m fi (.slice ak nk ck)] w (tQ B w (errC n d fr m fi)):=by
 have D:=Am h.vo.ca.ok H K;obtain⟨T,U,-⟩:=xA n;by_cases L:d<0\/13<=d\/(d=1\/d=2)/\(m<1\/64<m)
 .have E:errC n d fr m fi=1:=by
   unfold errC;by_cases h1:d<0\/13<=d
   .exact if_pos h1
   .rw [if_neg h1];exact if_pos ⟨oM,oM⟩
  rw[E];exact(zfN rfl L w).mono fun e w' ⟨M,j⟩=>⟨0,none,0,0,M,j.mono b.s⟩
 .have E:errC n d fr m fi=if d<=3\/d=5 then(if inS n.bl fr m then 0 else 10)else if d=6 then 14 else if d=9 then(if 0<=fr/\fr<=2 then 0 else 1)else if d=11/\((fr≠0/\fr≠1)\/(m<0\/64<m)\/0<m/\(fi<0\/2<fi))then 1 else 0:=by
   unfold errC;rw[if_neg oM,if_neg oM]
  have N:d=0\/(d=1\/d=2)/\(1<=m/\m<=64)\/d=3\/d=4\/d=5\/d=6\/d=7\/d=8\/d=9\/d=10\/d=11\/d=12:=oM;rw[E];rcases N with rfl|⟨O,Q⟩|rfl|rfl|rfl|rfl|rfl|rfl|rfl|rfl|rfl|rfl
  .exact Ao b h rfl
  .rw [if_pos (.inl oM)];exact RA b h rfl j k A O Q
  .exact WO b h rfl j A
  .exact RB b h rfl k
  .obtain ⟨cd,c1,c2,R⟩:=Ad (fr:=fr) (m:=m) (fi:=fi) (kp:=.slice ak nk ck) h D rfl;have S:(if inS n.bl fr m then(0:Int)else 10)=cd:=by
    split
    .next F=>exact(c1 F).symm
    .next F=>exact(c2 F).symm
   rw[if_pos (.inr rfl),S];exact R.mono fun _ _ h=>h.err b
  .exact (zbM h D rfl).mono fun _ _ h=>h.err b
  .exact Ap b h rfl hsl
  .exact (Ae h D rfl).mono fun _ _ h=>h.err b
  .exact Aq b h rfl
  .exact Ur b h rfl k A
  .by_cases V:(fr≠0/\fr≠1)\/(m<0\/64<m)
   .rw [if_neg oM,if_neg oM,if_neg oM,if_pos ⟨rfl,oM⟩];exact(Un h rfl oM).mono fun _ _ h=>h.err b
   .obtain ⟨G,rfl⟩:∃G:Nat,m=(G:Int):=⟨m.toNat,oM⟩
    by_cases hx:0<(G:Int)/\(fi<0\/2<fi)
    .rw [if_neg oM,if_neg oM,if_neg oM,if_pos ⟨rfl,oM⟩];exact(WL h rfl oM oM oM oM).mono fun _ _ h=>h.err b
    .rw [if_neg oM,if_neg oM,if_neg oM,if_neg oM];have J:=tn n;exact(Uo h rfl oM oM oM (by rw[J.1];decide) (by rw[J.2];decide)).mono fun _ _ h=>h.err b
  .exact RC b h hsl H
end
end Go.Proofs.YtbnpkobbnjihjaaGreatDoor
