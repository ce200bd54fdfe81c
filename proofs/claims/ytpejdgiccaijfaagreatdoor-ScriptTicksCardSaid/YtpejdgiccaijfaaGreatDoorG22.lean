/- The index, the -/
import Derived.Test.YtpejdgiccaijfaaGreatDoorG18
set_option maxRecDepth 100000
set_option maxHeartbeats 1000000
namespace Go.Proofs.YtpejdgiccaijfaaGreatDoor
open Go Go.RowKit Tryz
variable{s k:Nat}{t:Int}{n:CaN}{ps:List (Int×Bool)}{l:List Int}
theorem yN{b:Type}(l:List b)(i j:Nat)(x d:b):(l.set i x).getD j d=if i=j/\i<l.length then x else l.getD j d:=by
 simp only[qyg,qyp];by_cases h:i=j
 .subst h;by_cases q:i<l.length
  .simp [q]
  .simp [q]
 .simp [h]
abbrev plc(ps:List (Int×Bool))(k:Nat):Int×Bool:=ps.getD k (-1,false)
theorem xf(h:k<ps.length):plc ps k=ps[k]:=by simp[plc,h]
structure TieL(bl sl:Nat)(ps:List (Int×Bool))(st:List Int)(K:List Int)(o:Option Nat):Prop where
 hpl:ps.length=bl
 hsl:st.length=sl
 good:Good ps sl
 live:∀k,k<bl->plc ps k≠(-1,false)->st.getD (plc ps k).1.toNat 0=2
 used:∀s,s<sl->st.getD s 0=2->∃k,k<bl/\(plc ps k).1=(s:Int)
 opn:∀s,s<sl->(st.getD s 0=1↔o=some s)
 rng:∀s,s<sl->0<=st.getD s 0/\st.getD s 0<=4
 olt:∀s,o=some s->s<sl
 kk:∀k:Int,k∈K↔getC ps k=0
 kd:K.Nodup
theorem vY(q:s<l.length)(b:stateB t=true)(j:mayB (l.getD s 0) t=true):turnCode l (s:Int) t=0/\turnList l (s:Int) t=l.set s t:=by
 have h:turnCode l (s:Int) t=0:=by
  unfold turnCode;rw[if_neg oM,if_neg (by rw[b];decide),qxt,if_neg (by rw[j];decide)]
 exact⟨h,by unfold turnList;rw[if_pos h,qxt]⟩
theorem zQ{k:Int}:getC ps k=0↔∃m:Nat,m<ps.length/\k=(m:Int)/\plc ps m≠(-1,false):=by
 unfold getC;constructor
 .intro h;split at h
  .cases h
  .next j=>
   split at h
   .cases h
   .next b=>exact⟨k.toNat,oM,oM,b⟩
 .rintro ⟨m,h1,rfl,h2⟩;rw[if_neg oM,if_neg (by rw[qxt];exact h2)]
theorem xC{m:Nat}(h:m<ps.length)(b:plc ps m≠(-1,false)):getV ps (m:Int)=plc ps m:=by
 unfold getV;rw[if_neg oM,qxt,if_neg b]
section
variable{bl sl:Nat}{ps:List (Int×Bool)}{st K:List Int}{o:Option Nat}
theorem TieL.slot(h:TieL bl sl ps st K o)(j:k<bl)(q:plc ps k≠(-1,false)):∃s:Nat,s<sl/\(plc ps k).1=(s:Int)/\st.getD s 0=2:=by
 have b:k<ps.length:=by rw[h.hpl];exact j
 have h1:=(h.good.each k b).resolve_left (by rw[<-xf b];exact q);rw[<-xf b]at h1;have h2:=h.live k j q;exact⟨(plc ps k).1.toNat,oM,oM,h2⟩
theorem TieL.inj(b:TieL bl sl ps st K o){i j:Nat}(v:i<bl)(A:j<bl)(q:0<=(plc ps i).1)(h:(plc ps i).1=(plc ps j).1):i=j:=by
 have h1:i<ps.length:=by rw[b.hpl];exact v
 have h2:j<ps.length:=by rw[b.hpl];exact A
 rw[xf h1]at q h;rw[xf h2]at h;exact b.good.inj i j h1 h2 q h
theorem Ua(pre:List Nat):∀(l:List Int),pre.Nodup->(∀k∈pre,k<l.length/\l.getD k 0=3)->∀s,(freeTo l pre).getD s 0=if s∈pre then 0 else l.getD s 0:=by
 induction pre with
 |nil=>intro l _ _ s;simp[freeTo]
 |cons x pre A=>
  intro l b h s;obtain⟨hx,D⟩:=h x oe;have E:=(vY (t:=0) hx de (by rw[D];decide)).2;have e:freeTo l (x::pre)=freeTo (l.set x 0) pre:=by simp only[freeTo,List.foldl_cons,E]
  rw[qzx]at b;rw[e,A (l.set x 0) b.2 (fun k v=>by
   obtain⟨h1,h2⟩:=h k (by simp[v]);refine⟨by simpa using h1,?_⟩;rw[yN,if_neg (fun(e:x=k/\x<l.length)=>b.1 (e.1▸v))];exact h2) s,yN]
  by_cases q:x=s
  .subst q;rw[if_neg b.1,if_pos ⟨rfl,hx⟩,if_pos oe]
  .rw [if_neg (fun(e:x=s/\x<l.length)=>q e.1)];have:s≠x:=fun e=>q e.symm;by_cases j:s∈pre
   .rw [if_pos j,if_pos (by simp[j])]
   .rw [if_neg j,if_neg (by simp[j,this])]
theorem YP{x:Int}:s∈pos l x↔s<l.length/\l.getD s 0=x:=by
 simp[pos,xL,List.getD_eq_getElem?_getD]
theorem Rn(l:List Int)(x:Int):(pos l x).Nodup:=List.nodup_range.filter _
theorem Rp(l:List Int)(s:Nat)(h:s<l.length):(freeTo l (pos l 3)).getD s 0=if l.getD s 0=3 then 0 else l.getD s 0:=by
 rw[Ua _ _ (Rn l 3) (fun k j=>YP.1 j) s];by_cases b:l.getD s 0=3
 .rw [if_pos (YP.2 ⟨h,b⟩),if_pos b]
 .rw [if_neg (fun e=>b (YP.1 e).2),if_neg b]
theorem TieL.freed(h:TieL bl sl ps st K o):TieL bl sl ps (freeTo st (pos st 3)) K o:=by
 have b:∀s,s<sl->(freeTo st (pos st 3)).getD s 0=if st.getD s 0=3 then 0 else st.getD s 0:=fun s hs=>Rp st s jQ
 exact{h with
  hsl:=by rw[sB];exact h.hsl
  live:=fun k j q=>by
   obtain⟨s,hs,v,h2⟩:=h.slot j q;rw[v,qxt,b s hs,h2];decide
  used:=fun s hs h2=>by
   rw[b s hs]at h2;split at h2
   .cases h2
   .exact h.used s hs h2
  opn:=fun s hs=>by
   rw[b s hs,<-h.opn s hs];split
   .next e=>rw[e];decide
   .rfl
  rng:=fun s hs=>by
   rw[b s hs];split
   .decide
   .exact h.rng s hs}
theorem TieL.turned(b:TieL bl sl ps st K o){v:Option Nat}(A:s<sl)(h2:st.getD s 0≠2)(D:t≠2)(E:0<=t/\t<=4)(F:∀r,r<sl->(if r=s then t=1 else o=some r)=(v=some r))(G:∀r,v=some r->r<sl):TieL bl sl ps (st.set s t) K v:=by
 have H:s<st.length:=by rw[b.hsl];exact A
 have q:∀r,(st.set s t).getD r 0=if r=s then t else st.getD r 0:=fun r=>by
  rw[yN];by_cases e:s=r
  .subst e;rw[if_pos ⟨rfl,H⟩,if_pos rfl]
  .rw [if_neg (fun x=>e x.1),if_neg (fun x=>e x.symm)]
 exact{b with
  hsl:=by rw[qzf];exact b.hsl
  live:=fun k J L=>by
   obtain⟨r,h,M,j⟩:=b.slot J L;rw[M,qxt,q r,if_neg (fun(e:r=s)=>h2 (by rw[<-e];exact j))];exact j
  used:=fun r h j=>by
   rw[q r]at j;split at j
   .exact absurd j D
   .exact b.used r h j
  opn:=fun r h=>by
   rw[q r,<-F r h];split
   .exact Iff.rfl
   .exact b.opn r h
  rng:=fun r h=>by
   rw[q r];split
   .exact E
   .exact b.rng r h
  olt:=G}
theorem Rr(h:t=2\/t=3\/t=4):mayB 1 t=true:=by rcases h with rfl|rfl|rfl<;>decide
theorem TieL.shut(h:TieL bl sl ps st K (some s))(ht:t=3\/t=4):turnCode st (s:Int) t=0/\TieL bl sl ps (turnList st (s:Int) t) K none:=by
 have hs:=h.olt s rfl;have h1:=(h.opn s hs).2 rfl;obtain⟨j,q⟩:=vY (l:=st) (s:=s) (t:=t) jQ jC (by rw[h1];exact Rr (.inr ht));refine⟨j,?_⟩;rw[q];refine h.turned hs (by rw[h1];decide) jC jC (fun r b=>?_) (fun r b=>by cases b);split
 .rcases ht with rfl|rfl<;>simp
 .next e=>simp;exact fun v=>e v.symm
theorem WD(h:free l<l.length):l.getD (free l) 0=0:=by
 unfold free at h⊢;have:=List.findIdx_getElem (p:=(·==0)) (xs:=l) (w:=h);simp only[qyg,qyk h,Option.getD_some];simpa using this
theorem TieL.alloc(h:TieL bl sl ps st K none)(j:allocCode st=0):∃s:Nat,s<sl/\allocVal st=(s:Int)/\st.getD s 0=0/\TieL bl sl ps (allocList st) K (some s):=by
 unfold allocCode at j;split at j
 .next b=>
  have q:free st<sl:=by rw[<-h.hsl];exact b
  refine⟨free st,q,by unfold allocVal;rw[if_pos b],WD b,?_⟩;refine h.turned q (by rw[WD b];decide) de de (fun r v=>?_) (fun r v=>by cases v;exact q);split
  .next e=>subst e;simp
  .next e=>simp;exact fun A=>e A.symm
 .cases j
theorem uE{st:List Int}(b:allocCode st≠0):allocList st=st:=by
 unfold allocCode at b;split at b
 .exact absurd rfl b
 .next h=>exact List.set_eq_of_length_le oM
theorem xD(ps:List (Int×Bool))(k j:Nat)(x:Int×Bool)(b:k<ps.length):plc (ps.set k x) j=if j=k then x else plc ps j:=by
 rw[plc,yN];by_cases e:k=j
 .subst e;rw[if_pos ⟨rfl,b⟩,if_pos rfl]
 .rw [if_neg (fun x=>e x.1),if_neg (fun x=>e x.symm)]
theorem Zcg222{P:Prop}(h:P:=by
  rw[yN];by_cases e:s=r
  .subst e;rw[if_pos ⟨rfl,hsl⟩,if_pos rfl]
  .rw [if_neg (fun x=>e x.1),if_neg (fun x=>e x.symm)]):P:=h
theorem TieL.left(h:TieL bl sl ps st K o){k:Int}(M:getC ps k=0){K':List Int}(S:K'.Nodup)(T:∀x,x∈K'↔x∈K/\x≠k):
  turnCode st (getV ps k).1 3=0/\TieL bl sl (dropL ps k) (turnList st (getV ps k).1 3) K' o:=by
 obtain⟨m,G,rfl,O⟩:=zQ.1 M;have Q:m<bl:=by rw[<-h.hpl];exact G
 obtain⟨s,hs,H,h2⟩:=h.slot Q O;rw[xC G O,H];obtain⟨U,V⟩:=vY (l:=st) (s:=s) (t:=3) jQ de jV;refine⟨U,?_⟩;have W:dropL ps (m:Int)=ps.set m (-1,false):=by unfold dropL;rw[if_pos M,qxt]
 rw[V,W];have hsl:s<st.length:=by rw[h.hsl];exact hs
 have D:∀r,(st.set s 3).getD r 0=if r=s then 3 else st.getD r 0:=fun r=>by
  exact Zcg222
 have E:=fun b=>xD ps m b (-1,false) G;exact{
  hpl:=by rw[qzf];exact h.hpl
  hsl:=by rw[qzf];exact h.hsl
  good:=h.good.drop m
  live:=fun b q j=>by
   rw[E b]at j⊢;by_cases e:b=m
   .rw [if_pos e]at j;exact absurd rfl j
   .rw [if_neg e]at j⊢;obtain⟨r,v,J,X⟩:=h.slot q j;rw[J,qxt,D r,if_neg (fun F=>e (h.inj q Q (by rw[J];omega) (by rw[J,H,F])))];exact X
  used:=fun r v A=>by
   rw[D r]at A;by_cases e:r=s
   .rw [if_pos e]at A;cases A
   .rw [if_neg e]at A;obtain⟨b,q,L⟩:=h.used r v A;refine⟨b,q,?_⟩;rw[E b,if_neg (fun F=>e ?_)]
    .exact L
    .subst F;rw[H]at L;exact(Int.ofNat.inj L).symm
  opn:=fun r v=>by
   rw[D r,<-h.opn r v];by_cases e:r=s
   .rw [if_pos e,e,h2];decide
   .rw [if_neg e]
  rng:=fun r v=>by
   rw[D r];split
   .decide
   .exact h.rng r v
  olt:=h.olt
  kk:=fun x=>by
   rw[T,h.kk,zQ,zQ];constructor
   .rintro ⟨⟨b,q,rfl,j⟩,Y⟩;refine⟨b,by rw[qzf];exact q,rfl,?_⟩;rw[E b,if_neg (fun e=>Y (by rw[e]))];exact j
   .rintro ⟨b,q,rfl,j⟩;rw[E b]at j;rw[qzf]at q;by_cases e:b=m
    .rw [if_pos e]at j;exact absurd rfl j
    .rw [if_neg e]at j;exact⟨⟨b,q,rfl,j⟩,fun F=>e oM⟩
  kd:=S}
theorem TieL.clean(h:TieL bl sl ps st K o)(k:Int):TieL bl sl (cleanL ps k) st K o:=by
 by_cases D:getC ps k=0
 .obtain ⟨m,q,rfl,E⟩:=zQ.1 D;have H:cleanL ps (m:Int)=ps.set m ((plc ps m).1,false):=by unfold cleanL;rw[if_pos D,xC q E,qxt]
  rw[H];have J:m<bl:=by rw[<-h.hpl];exact q
  obtain⟨s,P,F,h2⟩:=h.slot J E;have L:=fun b=>xD ps m b ((plc ps m).1,false) q;have v:∀b,(plc (ps.set m ((plc ps m).1,false)) b≠(-1,false)↔plc ps b≠(-1,false))/\(plc (ps.set m ((plc ps m).1,false)) b).1=(plc ps b).1:=by
   intro b;rw[L b];by_cases e:b=m
   .subst e;rw[if_pos rfl];refine⟨⟨fun _=>E,fun _ e=>?_⟩,rfl⟩;have:=congrArg Prod.fst e;rw[F]at this;simp at this
   .rw [if_neg e];exact⟨Iff.rfl,rfl⟩
  have G:=h.good.clean q (by rw[<-xf q,F];omega);rw[<-xf q]at G;exact{h with
   hpl:=by rw[qzf];exact h.hpl
   good:=G
   live:=fun b j A=>by rw[(v b).2];exact h.live b j ((v b).1.1 A)
   used:=fun r M O=>by obtain⟨b,j,e⟩:=h.used r M O;exact⟨b,j,by rw[(v b).2];exact e⟩
   kk:=fun x=>by
    rw[h.kk,zQ,zQ];constructor
    .rintro ⟨b,j,rfl,A⟩;exact⟨b,by rw[qzf];exact j,rfl,(v b).1.2 A⟩
    .rintro ⟨b,j,rfl,A⟩;exact⟨b,by rw[qzf]at j;exact j,rfl,(v b).1.1 A⟩}
 .unfold cleanL;rw[if_neg D];exact h
theorem TieL.room(h:TieL bl sl ps st K (some s)):K.length<sl:=by
 have F:=h.olt s rfl;have h1:=(h.opn s F).2 rfl;have E:∀x∈K,∃r:Nat,r<sl/\(getV ps x).1=(r:Int)/\r≠s/\∃m:Nat,m<ps.length/\x=(m:Int)/\plc ps m≠(-1,false):=by
  intro x hx;obtain⟨m,v,rfl,D⟩:=zQ.1 ((h.kk x).1 hx);obtain⟨r,q,b,h2⟩:=h.slot (by rw[<-h.hpl];exact v) D;exact⟨r,q,by rw[xC v D];exact b,(fun(e:r=s)=>by rw[e,h1]at h2;cases h2),m,v,rfl,D⟩
 have O:(s::K.map (fun x=>(getV ps x).1.toNat)).Nodup:=by
  rw[qzx];constructor
  .intro v;obtain⟨x,hx,e⟩:=qzr.1 v;obtain⟨r,q,b,Q,-⟩:=E x hx;rw[b,qxt]at e;exact Q e
  .have S:=h.kd;clear F h1;have T:∀A:List Int,A.Nodup->(∀x∈A,x∈K)->(A.map (fun x=>(getV ps x).1.toNat)).Nodup:=by
    intro A
    induction A with
    |nil=>intro _ _;exact qzy
    |cons x A U=>
     intro G H;rw[qzx]at G;rw[qzi,qzx];refine⟨fun v=>?_,U G.2 (fun y hy=>H y (by simp[hy]))⟩;obtain⟨y,hy,e⟩:=qzr.1 v;obtain⟨r,q,b,-,m,L,rfl,D⟩:=E x (H x oe);obtain⟨X,Y,J,-,V,M,rfl,W⟩:=E y (H y (by simp[hy]));rw[b,J,qxt,qxt]at e;rw[xC L D]at b;rw[xC M W]at J;have:=h.inj (i:=m) (j:=V) (by rw[<-h.hpl];exact L) (by rw[<-h.hpl];exact M) (by rw[b];omega) (by rw[b,J,e]);exact G.1 (by rw[this];exact hy)
   exact T K S (fun x hx=>hx)
 have:=wF sl _ O (fun r q=>by
  rcases qzn.1 q with rfl|q
  .exact F
  .obtain ⟨x,hx,rfl⟩:=qzr.1 q;obtain⟨r,q,b,-⟩:=E x hx;rw[b,qxt];exact q)
 simp at this;omega
end
abbrev CaS.Tie(n:CaN)(a:CaS)(o:Option Nat):Prop:=TieL n.bl n.sl a.ps a.st a.K o
section
variable{n:CaN}{a:CaS}{o:Option Nat}
theorem CaS.Tie.ckpt(h:a.Tie n o):(a.ckpt n).1.Tie n o:=by
 unfold CaS.ckpt;split
 .exact h
 split
 .exact h
 split
 .exact h
 .exact TieL.freed h
theorem CaS.Tie.j7(h:a.Tie n o):(a.j7 n).1.Tie n o:=by
 unfold CaS.j7;split
 .exact h
 .exact CaS.Tie.ckpt h
theorem CaS.Tie.j9(h:a.Tie n o):(a.j9 n).1.Tie n o:=by
 unfold CaS.j9;split
 .exact h
 split
 .exact h
 .exact TieL.freed h
theorem CaS.Tie.evLeft(j:a.Tie n o)(q:a.evC n=0):getC a.ps (a.evK n)=0/\turnCode a.st (getV a.ps (a.evK n)).1 3=0/\((a.ev n).left n (a.evK n)).Tie n o:=by
 rcases evR_cases (cleanB a.ps) n.sl a.K a.A a.H with⟨h1,-⟩|⟨-,i,L,F,v,G,-⟩
 .have:a.evC n=14:=h1;rw[this]at q;cases q
 .have D:a.evK n=a.K[i]:=by rw[CaS.evK,v]
  have b:=qg G;rw[<-D]at b;have E:=EvG.restK_perm F;have h:(a.K[i]::EvG.restK a.K i).Nodup:=E.nodup_iff.2 j.kd;rw[qzx]at h;have:=TieL.left j b (K':=EvG.restK a.K i) h.2 (fun x=>by
   rw[D,<-E.mem_iff,qzn];constructor
   .intro hx;exact⟨.inr hx,fun e=>h.1 (e▸hx)⟩
   .rintro ⟨hx|hx,J⟩
    .exact absurd hx J
    .exact hx)
  refine⟨b,this.1,?_⟩;show TieL n.bl n.sl (dropL a.ps (a.evK n)) (turnList a.st (getV a.ps (a.evK n)).1 3) (EvG.evR (cleanB a.ps) n.sl a.K a.A a.H).2.2.1 o;rw[v];exact this.2
theorem CaS.Tie.evNo(b:a.Tie n o)(h:a.evC n≠0):(a.ev n).Tie n o:=by
 rcases evR_cases (cleanB a.ps) n.sl a.K a.A a.H with⟨-,j⟩|⟨h1,-⟩
 .show TieL n.bl n.sl a.ps a.st (EvG.evR (cleanB a.ps) n.sl a.K a.A a.H).2.2.1 o;rw[j];exact b
 .exact absurd h1 h
theorem CaS.Tie.kv{n:CaN}{o:Option Nat}:∀(m g:Nat) {a:CaS},a.Tie n o->(CaS.kv n m g a).1.Tie n o
 |0,g,a,b=>b
 |m+1,g,a,b=>by
  have h:=CaS.Tie.j7 b;simp only[CaS.kv];split
  .exact b
  split
  .exact h
  split
  .next j=>exact CaS.Tie.evNo h j
  .next j=>
   obtain⟨-,h2,q⟩:=CaS.Tie.evLeft h (qxq j);split
   .exact q
   .exact CaS.Tie.kv m (g+1) q
def CaS.TakeOk(n:CaN)(r:CaS×Int×Bool×Int):Prop:=
 (r.2.2.1=true/\r.2.2.2=0/\r.1.next+1<=r.1.cov+n.jo/\∃s:Nat,r.2.1=(s:Int)/\r.1.Tie n (some s))\/(r.2.2.1=false/\r.1.Tie n none)
theorem CaS.Tie.kF(h:a.Tie n (some s))(h1:1<=a.next)(j:4<=n.jo):CaS.TakeOk n (a.kF n (s:Int)):=by
 have b:=CaS.Tie.j7 h;unfold CaS.kF;split
 .next q=>exact .inl ⟨rfl,rfl,CaS.kD q h1 j,s,rfl,b⟩
 .exact .inr ⟨rfl,(TieL.shut b (.inl rfl)).2⟩
theorem CaS.evicts_next(n:CaN):∀(m g:Nat) (a:CaS),a.next<=(CaS.kv n m g a).1.next
 |0,g,a=>qXp _
 |m+1,g,a=>by
  have b:=(a.j8 n).1;simp only[CaS.kv];split
  .exact qXp _
  split
  .show a.next<=(a.j7 n).1.next;omega
  split
  .show a.next<=(a.j7 n).1.next;omega
  split
  .show a.next<=(a.j7 n).1.next+1;omega
  .have:=CaS.evicts_next n m (g+1) (((a.j7 n).1.ev n).left n ((a.j7 n).1.evK n));exact qXr (by show a.next<=(a.j7 n).1.next+1;omega) this
theorem CaS.Tie.take3(j:a.Tie n none)(h1:1<=a.next)(q:4<=n.jo):CaS.TakeOk n (a.take3 n):=by
 have b:=CaS.Tie.j9 j;have D:=(a.committed_next n).1;unfold CaS.take3;split
 .exact .inr ⟨rfl,b⟩
 split
 .next h=>
  refine .inr ⟨rfl,?_⟩;show TieL n.bl n.sl (a.j9 n).1.ps (allocList (a.j9 n).1.st) (a.j9 n).1.K none;rw[uE h];exact b
 .next h=>
  obtain⟨s,E,v,-,A⟩:=TieL.alloc b (qxq h);rw[v];exact CaS.Tie.kF (a:=(a.j9 n).1.al) A (by show 1<=(a.j9 n).1.next;omega) q
theorem CaS.Tie.kH(b:a.Tie n none)(h1:1<=a.next)(h:4<=n.jo):CaS.TakeOk n (a.kH n):=by
 unfold CaS.kH;split
 .exact .inr ⟨rfl,b⟩
 .exact CaS.Tie.take3 b h1 h
theorem CaS.Tie.take1(h:a.Tie n none)(h1:1<=a.next)(b:4<=n.jo):CaS.TakeOk n (a.take1 n):=by
 have j:=CaS.Tie.kv (n:=n) 1 0 h;have q:=CaS.evicts_next n 1 0 a;unfold CaS.take1;split
 .split
  .exact .inr ⟨rfl,j⟩
  .exact CaS.Tie.kH j oM b
 .exact CaS.Tie.kH h h1 b
theorem CaS.Tie.kq(h:a.Tie n none)(h1:1<=a.next)(j:4<=n.jo):CaS.TakeOk n (a.kq n):=by
 unfold CaS.kq;split
 .next b=>
  obtain⟨s,A,q,-,v⟩:=TieL.alloc h b;rw[q];exact CaS.Tie.kF (a:=a.al) v h1 j
 .next b=>
  have:a.al.Tie n none:=by
   show TieL n.bl n.sl a.ps (allocList a.st) a.K none;rw[uE b];exact h
  exact CaS.Tie.take1 this h1 j
theorem CaS.Fit.kq{N:Nat}(h:a.Fit N)(h1:1<=a.next)(v:∀b:CaS,(b=a.al\/b=(CaS.kv n 1 0 a.al).1)->b.W.length<=n.jo):(a.kq n).1.Fit (N+2*n.pa+n.jo+1):=by
 have h2:∀{b:CaS} {j:Nat},b.Fit j->b.W.length<=n.jo->(b.kH n).1.Fit (j+n.jo+n.pa):=by
  intro b j A E;have q:=A.j9 (n:=n) E;unfold CaS.kH;split
  .exact A.mono oM
  .unfold CaS.take3;split
   .exact q.mono oM
   split
   .exact q.al.mono oM
   .exact q.al.kF _
 have D:=CaS.Fit.kv (n:=n) 1 0 h.al h1;unfold CaS.kq;split
 .exact (h.al.kF _).mono oM
 .unfold CaS.take1;split
  .split
   .exact D.mono oM
   .exact (h2 D (v _ (.inr rfl))).mono oM
  .exact (h2 h.al (v _ (.inl rfl))).mono oM
end
section
variable{bl sl:Nat}{ps:List (Int×Bool)}{st K:List Int}{s k:Nat}
theorem TieL.putC(h:TieL bl sl ps st K (some s))(E:k<bl):putC ps sl (k:Int) (s:Int)=0:=by
 have v:=h.olt s rfl;have h1:=(h.opn s v).2 rfl;have F:=h.hpl;unfold Go.Proofs.YtpejdgiccaijfaaGreatDoor.putC;rw[if_neg oM,if_pos]
 left
 cases A:atOf ps (s:Int)with
 |none=>rfl
 |some j=>
  obtain⟨-,q,b⟩:=yT A;have D:plc ps j≠(-1,false):=by
   rw[xf q];intro e;rw[e]at b;simp at b
  have h2:=h.live j oM D;rw[xf q,b,qxt,h1]at h2;cases h2
theorem TieL.put(h:TieL bl sl ps st K (some s))(F:k<bl)(d:Bool):
  xy ps sl (k:Int) (s:Int) d=ps.set k ((s:Int),d)/\ti ps sl (k:Int) (s:Int)=plc ps k/\turnCode st (s:Int) 2=0/\turnList st (s:Int) 2=st.set s 2/\
   (plc ps k=(-1,false)->(k:Int)∉K/\K.length≠sl/\TieL bl sl (ps.set k ((s:Int),d)) (st.set s 2) (K++[(k:Int)]) none)/\
   (plc ps k≠(-1,false)->(k:Int)∈K/\TieL bl sl (ps.set k ((s:Int),d)) (turnList (st.set s 2) (plc ps k).1 3) K none):=by
 have V:=h.putC F;have W:=h.olt s rfl;have h1:=(h.opn s W).2 rfl;have S:k<ps.length:=by rw[h.hpl];exact F
 have hsl:s<st.length:=by rw[h.hsl];exact W
 obtain⟨ab,ad⟩:=vY (l:=st) (s:=s) (t:=2) hsl de (by rw[h1];decide);have G:=fun b=>xD ps k b ((s:Int),d) S;have H:∀r,(st.set s 2).getD r 0=if r=s then 2 else st.getD r 0:=fun r=>by
  exact Zcg222
 have X:∀b,b<bl->plc ps b≠(-1,false)->(plc ps b).1≠(s:Int):=by
  intro b j A e;have:=h.live b j A;rw[e,qxt,h1]at this;cases this
 have Y:Good (ps.set k ((s:Int),d)) sl:=by
  refine h.good.put S d oM oM ?_
  left
  cases ae:atOf ps (s:Int)with
  |none=>rfl
  |some b=>
   obtain⟨-,j,E⟩:=yT ae;refine absurd ?_ (X b (by rw[<-h.hpl];exact j) ?_)
   .rw [xf j];exact E
   .rw [xf j];intro e;rw[e]at E;simp at E
 have M:∀b,plc (ps.set k ((s:Int),d)) b≠(-1,false)↔(b=k\/plc ps b≠(-1,false)):=by
  intro b;rw[G b];by_cases e:b=k
  .rw [if_pos e];refine⟨fun _=> .inl e,fun _ v=>?_⟩;have:=congrArg Prod.fst v;simp at this
  .rw [if_neg e];exact⟨.inr,fun hx=>hx.resolve_left e⟩
 have Z:∀x:Int,getC (ps.set k ((s:Int),d)) x=0↔(x=(k:Int)\/getC ps x=0):=by
  intro x;rw[zQ,zQ];constructor
  .rintro ⟨b,j,rfl,A⟩;rw[qzf]at j;rcases(M b).1 A with rfl|A
   .exact .inl rfl
   .exact .inr ⟨b,j,rfl,A⟩
  .rintro (rfl|⟨b,j,rfl,A⟩)
   .exact ⟨k,by rw[qzf];exact S,rfl,(M k).2 (.inl rfl)⟩
   .exact ⟨b,by rw[qzf];exact j,rfl,(M b).2 (.inr A)⟩
 refine⟨by unfold xy;rw[if_pos V,qxt],by unfold ti;rw[if_pos V,qxt],ab,ad,fun E=>?_,fun E=>?_⟩
 .have a6:(k:Int)∉K:=fun af=>by
   obtain⟨m,am,an,ag⟩:=zQ.1 ((h.kk k).1 af);obtain rfl:k=m:=oM;exact ag E
  refine⟨a6,by have:=h.room;omega,?_⟩;exact{
   hpl:=by rw[qzf];exact h.hpl
   hsl:=by rw[qzf];exact h.hsl
   good:=Y
   live:=fun b j A=>by
    rw[G b];by_cases e:b=k
    .rw [if_pos e,qxt,H s,if_pos rfl]
    .rw [if_neg e];obtain⟨r,q,O,U⟩:=h.slot j (((M b).1 A).resolve_left e);rw[O,qxt,H r];split
     .rfl
     .exact U
   used:=fun r q h2=>by
    by_cases e:r=s
    .exact ⟨k,F,by rw[G k,if_pos rfl,e]⟩
    .rw [H r,if_neg e]at h2;obtain⟨b,j,J⟩:=h.used r q h2;refine⟨b,j,?_⟩;rw[G b,if_neg (fun v=>?_)]
     .exact J
     .rw [v,E]at J;simp at J
   opn:=fun r q=>by
    rw[H r];by_cases e:r=s
    .rw [if_pos e];simp
    .rw [if_neg e,h.opn r q];simp;exact fun v=>e v.symm
   rng:=fun r q=>by
    rw[H r];split
    .decide
    .exact h.rng r q
   olt:=fun r q=>by cases q
   kk:=fun x=>by
    rw[Z,qzm,qzu,h.kk];exact or_comm
   kd:=by
    rw[qzw];exact⟨h.kd,oe,fun x hx y hy e=>by simp at hy;subst hy;subst e;exact a6 hx⟩}
 .have a7:(k:Int)∈K:=(h.kk k).2 (zQ.2 ⟨k,S,rfl,E⟩);obtain⟨D,ah,T,ai⟩:=h.slot F E;have a8:D≠s:=fun e=>X k F E (by rw[T,e]);refine⟨a7,?_⟩;rw[T];have aa:D<(st.set s 2).length:=by rw[qzf,h.hsl];exact ah
  have aj:(st.set s 2).getD D 0=2:=by rw[H D,if_neg a8];exact ai
  rw[(vY (l:=st.set s 2) (s:=D) (t:=3) aa de (by rw[aj];decide)).2];have Q:∀r,((st.set s 2).set D 3).getD r 0=if r=D then 3 else if r=s then 2 else st.getD r 0:=fun r=>by
   rw[yN,H r];by_cases e:D=r
   .subst e;rw[if_pos ⟨rfl,aa⟩,if_pos rfl]
   .rw [if_neg (fun x=>e x.1),if_neg (fun(x:r=D)=>e x.symm)]
  exact{
   hpl:=by rw[qzf];exact h.hpl
   hsl:=by rw[qzf,qzf];exact h.hsl
   good:=Y
   live:=fun b j A=>by
    rw[G b];by_cases e:b=k
    .rw [if_pos e,qxt,Q s,if_neg (fun v=>a8 v.symm),if_pos rfl]
    .rw [if_neg e];have ak:=((M b).1 A).resolve_left e;obtain⟨r,q,O,U⟩:=h.slot j ak;rw[O,qxt,Q r,if_neg (fun v=>e (h.inj j F (by rw[O];omega) (by rw[O,T,v])))];split
     .rfl
     .exact U
   used:=fun r q h2=>by
    rw[Q r]at h2;by_cases L:r=D
    .rw [if_pos L]at h2;cases h2
    .rw [if_neg L]at h2;by_cases e:r=s
     .exact ⟨k,F,by rw[G k,if_pos rfl,e]⟩
     .rw [if_neg e]at h2;obtain⟨b,j,J⟩:=h.used r q h2;refine⟨b,j,?_⟩;rw[G b,if_neg (fun v=>?_)]
      .exact J
      .rw [v,T]at J;exact L oM
   opn:=fun r q=>by
    rw[Q r];by_cases L:r=D
    .rw [if_pos L];simp
    .rw [if_neg L];by_cases e:r=s
     .rw [if_pos e];simp
     .rw [if_neg e,h.opn r q];simp;exact fun v=>e v.symm
   rng:=fun r q=>by
    rw[Q r];split
    .decide
    .split
     .decide
     .exact h.rng r q
   olt:=fun r q=>by cases q
   kk:=fun x=>by
    rw[Z,h.kk];constructor
    .exact .inr
    .rintro (rfl|hx)
     .exact (h.kk _).1 a7
     .exact hx
   kd:=h.kd}
end
theorem CaS.Tie.put{a:CaS}(q:a.Tie n (some s))(v:k<n.bl)(A:Nat)(d:Bool):putC a.ps n.sl (k:Int) (s:Int)=0/\(a.kz n (k:Int) s A d).2=0/\(a.kz n (k:Int) s A d).1.Tie n none:=by
 obtain⟨h1,h2,H,D,E,F⟩:=TieL.put q v d;refine⟨TieL.putC q v,?_⟩;by_cases b:plc a.ps k=(-1,false)
 .obtain ⟨h,j,G⟩:=E b;unfold CaS.kz;rw[h2,if_pos (by rw[b];exact⟨rfl,rfl⟩)];refine⟨by show addC n.sl a.K (k:Int)=0;unfold addC;rw[if_neg h,if_neg j],?_⟩;show TieL n.bl n.sl (xy a.ps n.sl (k:Int) (s:Int) d) (turnList a.st (s:Int) 2) (Zj n.sl a.K (k:Int)) none;rw[h1,D,Zj,if_neg (by intro e;rcases e with e|e;exact h e;exact j e)];exact G
 .obtain ⟨h,j⟩:=F b;unfold CaS.kz;rw[h2,if_neg (fun e=>b (Prod.ext e.1 e.2))];refine⟨by show touchC a.K (k:Int)=0;unfold touchC;rw[if_pos h],?_⟩;show TieL n.bl n.sl (xy a.ps n.sl (k:Int) (s:Int) d) (turnList (turnList a.st (s:Int) 2) (plc a.ps k).1 3) a.K none;rw[h1,D];exact j
theorem CaS.Tie.kK{a:CaS}{o:Option Nat}(b:a.Tie n o){k:Int}(h:getC a.ps k=0):turnCode a.st (getV a.ps k).1 3=0/\touchC a.K k=0/\(a.kK n k).Tie n o:=by
 have j:=(b.kk k).2 h;have:=TieL.left b h (K':=a.K.erase k) (b.kd.erase k) (fun x=>by rw[b.kd.mem_erase_iff];exact and_comm);refine⟨this.1,by unfold touchC;rw[if_pos j],this.2⟩
theorem CaS.Tie.ku{a:CaS}(h:a.Tie n (some s))(b:Int)(x:Bk):((a.ku n s b x).2=0/\(a.ku n s b x).1.Tie n (some s))\/((a.ku n s b x).2≠0/\(a.ku n s b x).1.Tie n none):=by
 unfold CaS.ku;split
 .exact .inl ⟨rfl,h⟩
 .next j=>exact .inr ⟨j,(TieL.shut h (.inr rfl)).2⟩
def CaS.byp(n:CaN)(b:CaS)(k:Nat):CaS:=if getC b.ps (k:Int)=0 then b.kK n (k:Int)else b
def CaS.kt(n:CaN)(a:CaS)(k:Nat)(x:Bk):CaS×Int:=
 if(a.j7 n).2≠0 then((a.j7 n).1,(a.j7 n).2)
 else if(writeR (a.j7 n).1.bF (a.j7 n).1.bO (a.j7 n).1.bP k x).cd≠0 then((a.j7 n).1.kB (writeR (a.j7 n).1.bF (a.j7 n).1.bO (a.j7 n).1.bP k x),(writeR (a.j7 n).1.bF (a.j7 n).1.bO (a.j7 n).1.bP k x).cd)
 else(((a.j7 n).1.kB (writeR (a.j7 n).1.bF (a.j7 n).1.bO (a.j7 n).1.bP k x)).byp n k,0)
section
variable{own:Nat->Nat}{w w':World}{c:Nat}{n:CaN}{p:CaP}{a:CaS}{N:Nat}
theorem WE(h:CaAt own w c n p a)(j:a.Fit N)(D:N<=50000)(q:a.Tie n none)(k:Nat)(v:a.next<=a.cov+n.jo):
  Calls prog 244 #[ptr c,.int .i64 (k:Int)] w (zt own w c n p (a.byp n k) (.int .i64 0)):=by
 by_cases b:getC a.ps (k:Int)=0
 .obtain ⟨h1,h2,-⟩:=q.kK b;have A:(k:Int)<4096:=by
   have h1:=h.pl;have h2:=h.ok.b2;obtain⟨m,E,e,-⟩:=zQ.1 b;omega
  have:=YF h (k:Int) b v (by have:=j.nx;omega) (ZT h.nx1 (by have:=j.nx;omega) (by have:=h.ok.j1;omega) ⟨oM,A⟩) h1;rw[h2]at this;unfold CaS.byp;rw[if_pos b];exact this
 .unfold CaS.byp;rw[if_neg b];exact Wj h (k:Int) b
theorem CaS.Fit.byp(h:a.Fit N)(h1:1<=a.next)(k:Nat):(a.byp n k).Fit (N+1):=by
 unfold CaS.byp;split
 .exact {h.left h1 (k:Int)with}
 .exact h.mono oM
theorem CaS.Fit.bw(h:a.Fit N)(k:Nat)(x:Bk):(a.kB (writeR a.bF a.bO a.bP k x)).Fit (N+1):=
 {h.mono (qXq N)with bO:=by have h1:=wu a.bF a.bO a.bP k x;have h2:=h.bO;show(writeR a.bF a.bO a.bP k x).O.length<=_;omega}
theorem CaS.Fit.kt(h:a.Fit N)(h1:1<=a.next)(k:Nat)(x:Bk):(a.kt n k x).1.Fit (N+n.pa+2):=by
 have b:=h.j7 (n:=n);have q:=(a.j8 n).1;have j:=b.bw k x;unfold CaS.kt;split
 .exact b.mono oM
 split
 .exact j.mono oM
 .exact (j.byp (n:=n) (by show 1<=(a.j7 n).1.next;omega) k).mono oM
theorem CaS.Tie.byp{o:Option Nat}(b:a.Tie n o)(k:Nat):(a.byp n k).Tie n o:=by
 unfold CaS.byp;split
 .next h=>exact(CaS.Tie.kK b h).2.2
 .exact b
theorem CaS.Tie.kt(h:a.Tie n none)(k:Nat)(x:Bk):(a.kt n k x).1.Tie n none:=by
 have b:=CaS.Tie.j7 h;unfold CaS.kt;split
 .exact b
 split
 .exact b
 .exact CaS.Tie.byp (a:=(a.j7 n).1.kB (writeR (a.j7 n).1.bF (a.j7 n).1.bO (a.j7 n).1.bP k x)) b k
theorem vZ(h:CaAt own w c n p a)(V:a.Fit N)(aK:N+n.pa+2<=50000)(ad:a.Tie n none)(k:Nat)(G:k<n.bl)(x:Bk)(hx:x.length=64):
  Calls prog 178 #[ptr c,.int .i64 (k:Int),.agg (bkC x).toArray] w (zt own w c n p (a.kt n k x).1 (.int .i64 (a.kt n k x).2)):=by
 obtain⟨w1,O⟩:=qqe (w.alloc (.cells (bkC x).toArray 60));have W:=qqu O;have q:=qqg O;obtain⟨m,X⟩:=qqe (w.heap.size);have A:own m=0:=h.far _ oM;rw[<-X]at q;have h1:=h.new W;have ae:=h.ko W;have Q:=qqh (vX h1 V oM);obtain⟨R,b⟩:=qqe (a.kt n k x);rw[<-b];unfold CaS.kt at b;have v:=V.j7 (n:=n);have D:=CaS.Tie.j7 ad;have af:=(a.j8 n).1;have ag:=h.nx1;have j:=fun h=>CaS.kD (a:=a) (n:=n) h ag (show 4<=n.jo by have:=h1.ok.j1;omega);generalize a.j7 n=r at*;obtain⟨J,ah⟩:=r;simp only at Q b v D af j;have az:=Y9 A ae q hx b v D j G;have aA:=qqh X;have aB:=qqh O;have aC:=underlying60;have aD:=zu x hx;clear h V hx W q h1 A X O ae b v D af j ag ad G;go_enter func178,ntmps178
 go_wp2_with fail
 rw[<-aB.o,<-aA.o];refine Q.o.mono ?_;rintro e ai ⟨rfl,aj,h2,L⟩;obtain⟨A,Y,q,hx,b,v,D,j,G⟩:=az.o;have T:=Y.trans L;by_cases E:ah=0
 rotate_left
 .have aE:(ah==0)=false:=by simpa using E
  rw[if_pos E]at b;have F:=Y3 h2 T b;clear h2 T b L Y A q hx v D j G Q;go_wp2
  go_ret
  rw[F.o.2.2];exact⟨rfl,aj,F.o.1,F.o.2.1⟩
 subst E;rw[if_neg oe]at b;replace j:=j oe;obtain⟨-,ak,-,-,-,-,-,-,-⟩:=h2.cells;have Z:=L.upd.range (zg q) (fun h=>h.1 A);have am:aj m=0:=(L.old m (zd q)).trans A;have a6:=(uur (fun _=>False) ai).drew;have an:=qqh (wk (h2.new a6) k (by rw[h2.gl];exact G) x hx (by have:=v.bO;omega));have aF:=v.bw k x;generalize aG:writeR J.bF J.bO J.bP k x=r at*;have H:=Y6 am b aF D j (T.trans (h2.ko a6));clear A Y q hx h2 L am Q T b v D j G a6 aG;go_upto_region 4 with fail
 refine qZc (S:=fun ao=>ao.cell? ⟨c,15,none⟩=some (ptr p.back)/\ao.rangeAt m 0 (bkC x)) kR (by(simp only[qYi,qYk]);exact⟨ak,Z⟩) (fun a7=>?_);refine Wl.i [0,1,2,3,4] ?_;iterate 5 refine Wl.t a7 ?_
 refine Wl.o ?_;refine Wl.l 5 (fun w h=>h.2) aC aD a7 ?_;refine Wl.r 6 (fun K M=>?_);go_simp
 refine an.out.mono ?_;rintro e aL ⟨rfl,aH,a8,aa⟩;obtain⟨-,ap,-,-,-,-,-,-,-⟩:=a8.cells;have aq:=aa.upd.range (show ai.drew.rangeAt m 0 (bkC x) by rw[qYk];exact Z) (fun h=>h.1 H.o.1);have U:=Y2 a8 (H.o.2.2.2.2.2.trans aa);clear a8 aa;refine M.o _ _ (⟨ap,aq⟩) (fun ar=>?_);clear M K;refine Wl.r 7 (fun K M=>?_);go_simp
 refine M.o _ _ (ar) (fun aI=>?_);clear M K;refine Wl.d ?_;clear a7 ar aI ap aq Z ak an;have b:=H.o.2.1;obtain⟨au,ab⟩:=qqe (r.cd);rw[<-ab]at b⊢;by_cases E:au=0
 rotate_left
 .have aE:(au==0)=false:=by simpa using E
  rw[if_pos E]at b;have F:=qqh b;clear b ab;go_wp2
  go_ret
  rw[F.o];exact⟨rfl,aH,U.o.1,U.o.2⟩
 subst E;rw[if_neg oe]at b;have av:=qqh (zt.from U.o.2 (WE U.o.1 H.o.2.2.1 oM H.o.2.2.2.1 k (by have:=H.o.2.2.2.2.1;show J.next<=J.cov+n.jo;omega)));have F:=qqh b;clear b ab;go_wp2_with fail
 refine av.o.mono ?_;rintro e aM ⟨rfl,aJ,aw,ax⟩;have ay:=Y2 aw ax;clear aw ax av;go_wp2
 go_ret
 rw[F.o];exact⟨rfl,aJ,ay.o.1,ay.o.2⟩
end
structure CaS.Jg(n:CaN)(a:CaS):Prop where
 wl:a.W.length+a.cov+1<=a.next
 room:a.next<=a.cov+n.jo+1
theorem CaAt.jg{own:Nat->Nat}{w:World}{c:Nat}{p:CaP}{a:CaS}(h:CaAt own w c n p a):a.Jg n:=⟨h.jr.good.wl,h.jr.good.room⟩
section
variable{n:CaN}{a:CaS}{N:Nat}
theorem CaS.Jg.len(h:a.Jg n):a.W.length<=n.jo:=by have:=h.wl;have:=h.room;omega
theorem CaS.Jg.ckpt(h:a.Jg n):(a.ckpt n).1.Jg n:=by
 have h1:=h.wl;have h2:=h.room;unfold CaS.ckpt;split
 .exact ⟨h1,h2⟩
 split
 .exact ⟨h1,h2⟩
 split
 .exact ⟨h1,h2⟩
 .exact ⟨by show 0+(a.next-1)+1<=a.next;omega,by show a.next<=(a.next-1)+n.jo+1;omega⟩
theorem CaS.Jg.j7(h:a.Jg n):(a.j7 n).1.Jg n:=by
 unfold CaS.j7;split
 .exact h
 .exact h.ckpt
theorem CaS.Jg.left(b:a.Jg n)(h:a.next<=a.cov+n.jo)(k:Int):(a.left n k).Jg n:=by
 have h1:=b.wl;exact⟨by show(a.W++_).length+a.cov+1<=a.next+1;rw[qyz];simp;omega,by show a.next+1<=a.cov+n.jo+1;omega⟩
theorem CaS.Jg.kv{n:CaN}(j:4<=n.jo):∀(m g:Nat) {a:CaS},a.Jg n->1<=a.next->(CaS.kv n m g a).1.Jg n
 |0,g,a,h,_=>h
 |m+1,g,a,h,h1=>by
  have b:=h.j7;have A:=(a.j8 n).1;simp only[CaS.kv];split
  .exact h
  split
  .exact b
  split
  .exact ⟨b.wl,b.room⟩
  .next v _=>
   have D:=CaS.kD (qxq v) h1 j;have q:(((a.j7 n).1.ev n).left n ((a.j7 n).1.evK n)).Jg n:=CaS.Jg.left (a:=(a.j7 n).1.ev n) ⟨b.wl,b.room⟩ (by show(a.j7 n).1.next<=(a.j7 n).1.cov+n.jo;omega) _;split
   .exact q
   .exact CaS.Jg.kv j m (g+1) q (by show 1<=(a.j7 n).1.next+1;omega)
theorem CaS.Fit.takes'(h:a.Fit N)(b:a.Jg n)(h1:1<=a.next)(j:4<=n.jo):(a.kq n).1.Fit (N+2*n.pa+n.jo+1):=
 h.kq h1 (fun v q=>by
  rcases q with rfl|rfl
  .exact b.len
  .exact (CaS.Jg.kv (a:=a.al) j 1 0 ⟨b.wl,b.room⟩ h1).len)
theorem CaS.Fit.ku(b:a.Fit N)(s:Nat)(h:Int)(x:Bk):(a.ku n s h x).1.Fit (N+1):=by
 have h1:=wu a.dF a.dO a.dP (n.kx+s) x;have h2:=b.dO;unfold CaS.ku;split
 .exact {b.mono (qXq N)with dO:=by show(writeR a.dF a.dO a.dP (n.kx+s) x).O.length<=_;omega}
 .exact {b.mono (qXq N)with dO:=by show(writeR a.dF a.dO a.dP (n.kx+s) x).O.length<=_;omega}
theorem Zcg221{P:Prop}(h:P:=by
  exact {b.mono (qXq N)with sm:=D,w1:=E,nx:=by(show a.next+1<=N+1;omega),iN:=by(show a.iN+1<=N+1;omega),mN:=by(show a.mN+1<=N+1;omega),kN:=by(show a.kN+1<=N+1;omega)}):P:=h
theorem CaS.Fit.kz(b:a.Fit N)(h1:1<=a.next)(k:Int)(s j:Nat)(d:Bool)(F:j<=4294967295):(a.kz n k s j d).1.Fit (N+1):=by
 have D:∀x q,yP a.sums k (some j) x=some q->q<=4294967295:=fun x q v=>by
  simp only[yP]at v;split at v
  .cases v;exact F
  .exact b.sm x q v
 have E:∀A∈a.W++[(a.next,sectR (jaddX a.next n.jo 0 k s d j))],1<=A.1:=fun A h=>by
  rcases qzm.1 h with h|h
  .exact b.w1 A h
  .simp at h;subst h;exact h1
 have G:=b.nx;have H:=b.iN;have J:=b.mN;have L:=b.kN;unfold CaS.kz;split
 .exact Zcg221
 .exact Zcg221
end
def CaS.backS(n:CaN)(b:CaS)(k:Nat)(s:Nat)(x:Bk):CaS×Int:=
 if(b.ku n s k x).2≠0 then((b.ku n s k x).1,(b.ku n s k x).2)else(((b.ku n s k x).1.kz n k s (crcC x) true).1,0)
def CaS.kE(n:CaN)(a:CaS)(k:Nat)(x:Bk):CaS×Int:=
 if(a.kq n).2.2.2≠0 then((a.kq n).1,(a.kq n).2.2.2)
 else if(a.kq n).2.2.1=false then(a.kq n).1.kt n k x else(a.kq n).1.backS n k (a.kq n).2.1.toNat x
section
variable{own:Nat->Nat}{w w':World}{c:Nat}{n:CaN}{p:CaP}{a:CaS}{N:Nat}
theorem xX(n:CaN)(a:CaS)(s:Nat)(b:Int)(x:Bk):(a.ku n s b x).1.next=a.next/\(a.ku n s b x).1.cov=a.cov:=by
 unfold CaS.ku;split<;>exact⟨rfl,rfl⟩
theorem zaM(h:CaAt own w c n p a)(ab:a.Fit N)(D:N+3*n.pa+n.jo+4<=50000)(an:a.Tie n none)(k:Nat)(q:k<n.bl)(x:Bk)(hx:x.length=64):
  Calls prog 241 #[ptr c,.int .i64 (k:Int),.agg (bkC x).toArray] w (zt own w c n p (a.kE n k x).1 (.int .i64 (a.kE n k x).2)):=by
 obtain⟨w1,Y⟩:=qqe (w.alloc (.cells (bkC x).toArray 60));have ad:=qqu Y;have Q:=qqg Y;obtain⟨m,ae⟩:=qqe (w.heap.size);have U:own m=0:=h.far _ oM;rw[<-ae]at Q;have h1:=h.new ad;have ao:=h.ko ad;have af:=qqh (TB h1 ab oM);obtain⟨R,b⟩:=qqe (a.kE n k x);rw[<-b];unfold CaS.kE at b;have ap:=h.ok.j1;have E:=ab.takes' h.jg h.nx1 ap;have W:=CaS.Tie.kq an h.nx1 ap;generalize a.kq n=r at*;obtain⟨aq,b0,b1,ar⟩:=r;simp only at af b E;have aO:=Y9 U ao Q hx b E W q D;have aP:=qqh ae;have aQ:=qqh Y;have au:=underlying60;have av:=zu x hx;clear h ab hx ad Q h1 U ae Y ao b E W an q D;go_enter func241,ntmps241
 go_wp2_with fail
 rw[<-aQ.o,<-aP.o];refine af.o.mono ?_;rintro e aR ⟨rfl,aw,h2,Z⟩;obtain⟨U,ax,Q,hx,b,E,W,q,D⟩:=aO.o;have G:=ax.trans Z;have S:=Z.upd.range (zg Q) (fun h=>h.1 U);have H:aw m=0:=(Z.old m (zd Q)).trans U;clear U ax Q Z af;by_cases J:ar=0
 rotate_left
 .have aS:(ar==0)=false:=by simpa using J
  rw[if_pos J]at b;have j:=Y3 h2 G b;clear h2 G b hx E W q S H D;go_wp2
  go_ret
  rw[j.o.2.2];exact⟨rfl,aw,j.o.1,j.o.2.1⟩
 subst J;rw[if_neg oe]at b;rcases W with⟨v,-,V,s,ay,L⟩|⟨v,L⟩
 rotate_left
 .simp only at v L;subst v;rw[if_pos rfl]at b;have ag:=qqh (zt.from G (vZ h2 E oM L k q x hx));have j:=qqh b;clear h2 G b hx E L q H D;go_wp2_with (first
   |(refine qYz rfl _ _ rfl _ _ rfl _ _ S au rfl av ?_)
   |fail)
  rw[<-j.o]at ag;refine ag.o.mono ?_;rintro e az ⟨rfl,a6,M,T⟩;have aA:=Y2 M T;clear M T ag S;go_wp2
  go_ret
  exact⟨rfl,a6,aA.o.1,aA.o.2⟩
 simp only at v ay L V;subst v ay;rw[if_neg de,qxt]at b;unfold CaS.backS at b;have hsl:=L.olt s rfl;have ah:=qqh (Tl h2 s hsl (k:Int) (.inr ⟨oM,oM⟩) x hx (by have:=E.dO;omega));have F:=E.ku (n:=n) s (k:Int) x;have A:=CaS.Tie.ku L (k:Int) x;have O:=xX n aq s (k:Int) x;generalize CaS.ku n aq s (k:Int) x=r at*;obtain⟨aB,aT⟩:=r;simp only at ah b F A O;have aU:=Y12 G H b F A O V q hx h2.nx1 h2.ok D;clear h2 G H b F A O V q hx L E hsl D;go_wp2_with (first
  |(refine qYz rfl _ _ rfl _ _ rfl _ _ S au rfl av ?_)
  |fail)
 refine ah.o.mono ?_;rintro e az ⟨rfl,a6,M,a7⟩;obtain⟨G,H,b,F,A,O,V,q,hx,aC,v,D⟩:=aU.o;have T:=G.trans a7;have aD:=a7.upd.range S (fun h=>h.1 H);have b2:a6 m=0:=(a7.old m (qYh aR _ (S 0 _ oS))).trans H;clear S G H a7 ah;rcases A with⟨J,A⟩|⟨J,A⟩
 rotate_left
 .have aS:(aT==0)=false:=by simpa using J
  rw[if_pos J]at b;have j:=Y3 M T b;clear M T b F A O V q hx aC v D;go_wp2
  go_ret
  rw[j.o.2.2];exact⟨rfl,a6,j.o.1,j.o.2.1⟩
 subst J;rw[if_neg oe]at b;obtain⟨b3,a8⟩:=qqe (az.alloc (.cells #[.slice (some ⟨m,0,none⟩) 64 64] 269));have aa:=qqu a8;have ai:=M.new aa;have aE:=aa.range aD id;have aF:=qqg a8;have aG:=qqh (uQ (cl:=1) x ai.nib (za aF 0) aE hx oM oM);have aj:=CaS.Tie.put A q (crcC x) true;have aV:=F.nx;have aW:=A.olt s rfl;have aX:=uP x;have aH:Hid (∀ak X,CaAt ak X c n p aB->Calls prog 310 #[ptr c,.int .i64 (k:Int),.int .i64 (s:Int),.int .i64 (crcC x:Int),.bool true] X (zt ak X c n p (aB.kz n (k:Int) s (crcC x) true).1 (.int .i64 0))):=by
  intro ak X aI;have b4:maxLen>=60000:=by simp only[maxLen];omega
  have:=Tm aI (k:Int) s (crcC x) true (by rw[O.1,O.2];omega) oM (sL true aI.nx1 oM (by have:=v.j1;omega) ⟨oM,by have:=v.b2;omega⟩ (by have:=v.s2;omega) oM) aj.1 (by have:=F.iN;omega) oM (by have:=F.mN;omega) (by have:=F.kN;omega);rw[aj.2.1]at this;exact this
 have j:=Y4 ai (T.trans (M.ko aa)) b a8;clear M T b F A O V q hx aC v D aa ai aE aF aj aV aW aX a8 aD;go_wp2_with fail
 rw[<-j.o.2.2.2];refine aG.o.mono ?_;rintro e X ⟨rfl,aJ⟩;have am:=qqb aJ;have aK:=qqh (zt.from (j.o.2.1.trans (j.o.1.ko am)) (aH.o _ _ (j.o.1.new am)));have aY:=qqh j.o.2.2.1;clear am aJ aG aH j;go_wp2_with fail
 refine aK.o.mono ?_;rintro e b5 ⟨rfl,aZ,aL,aM⟩;have aN:=Y2 aL aM;clear aL aM aK;go_wp2
 go_ret
 rw[aY.o];exact⟨rfl,aZ,aN.o.1,aN.o.2⟩
end
def CaS.thruF(n:CaN)(b:CaS)(k:Nat)(s:Nat)(x:Bk):CaS×Int:=
 if(b.ku n s k x).2≠0 then((b.ku n s k x).1.byp n k,0)else(((b.ku n s k x).1.kz n k s (crcC x) false).1,0)
def CaS.thruS(n:CaN)(b:CaS)(k:Nat)(s:Nat)(x:Bk):CaS×Int:=
 if(writeR b.bF b.bO b.bP k x).cd≠0 then({b.kB (writeR b.bF b.bO b.bP k x)with st:=turnList b.st (s:Int) 3},(writeR b.bF b.bO b.bP k x).cd)
 else(b.kB (writeR b.bF b.bO b.bP k x)).thruF n k s x
def CaS.thru(n:CaN)(a:CaS)(k:Nat)(x:Bk):CaS×Int:=
 if(a.kq n).2.2.2≠0 then((a.kq n).1,(a.kq n).2.2.2)
 else if(a.kq n).2.2.1=false then(a.kq n).1.kt n k x else(a.kq n).1.thruS n k (a.kq n).2.1.toNat x
section
variable{own:Nat->Nat}{w w':World}{c:Nat}{n:CaN}{p:CaP}{a:CaS}{N:Nat}
theorem zaN(h:CaAt own w c n p a)(ap:a.Fit N)(D:N+3*n.pa+n.jo+6<=50000)(aJ:a.Tie n none)(k:Nat)(j:k<n.bl)(x:Bk)(hx:x.length=64):
  Calls prog 242 #[ptr c,.int .i64 (k:Int),.agg (bkC x).toArray] w (zt own w c n p (a.thru n k x).1 (.int .i64 (a.thru n k x).2)):=by
 obtain⟨w1,ah⟩:=qqe (w.alloc (.cells (bkC x).toArray 60));have aq:=qqu ah;have X:=qqg ah;obtain⟨m,ar⟩:=qqe (w.heap.size);have a7:own m=0:=h.far _ oM;rw[<-ar]at X;have h1:=h.new aq;have aK:=h.ko aq;have au:=qqh (TB h1 ap oM);obtain⟨R,b⟩:=qqe (a.thru n k x);rw[<-b];unfold CaS.thru at b;have aL:=h.ok.j1;have L:=ap.takes' h.jg h.nx1 aL;have ad:=CaS.Tie.kq aJ h.nx1 aL;generalize a.kq n=r at*;obtain⟨U,bB,bC,aM⟩:=r;simp only at au b L;have bg:=Y9 a7 aK X hx b L ad j D;have bh:=qqh ar;have bi:=qqh ah;have av:=underlying60;have aw:=zu x hx;clear h ap hx aq X h1 a7 ar ah aK b L ad aJ j D;go_enter func242,ntmps242
 go_wp2_with fail
 rw[<-bi.o,<-bh.o];refine au.o.mono ?_;rintro e ax ⟨rfl,aN,h2,ai⟩;obtain⟨a7,aO,X,hx,b,L,ad,j,D⟩:=bg.o;have a8:=aO.trans ai;have Y:=ai.upd.range (zg X) (fun h=>h.1 a7);have aj:aN m=0:=(ai.old m (zd X)).trans a7;clear a7 aO X ai au;by_cases E:aM=0
 rotate_left
 .have aP:(aM==0)=false:=by simpa using E
  rw[if_pos E]at b;have q:=Y3 h2 a8 b;clear h2 a8 b hx L ad j Y aj D;go_wp2
  go_ret
  rw[q.o.2.2];exact⟨rfl,aN,q.o.1,q.o.2.1⟩
 subst E;rw[if_neg oe]at b;rcases ad with⟨v,-,F,s,aQ,A⟩|⟨v,A⟩
 rotate_left
 .simp only at v A;subst v;rw[if_pos rfl]at b;have ay:=qqh (zt.from a8 (vZ h2 L oM A k j x hx));have q:=qqh b;clear h2 a8 b hx L A j aj D;go_wp2_with (first
   |(refine qYz rfl _ _ rfl _ _ rfl _ _ Y av rfl aw ?_)
   |fail)
  rw[<-q.o]at ay;refine ay.o.mono ?_;rintro e aR ⟨rfl,az,G,M⟩;have ae:=Y2 G M;clear G M ay Y;go_wp2
  go_ret
  exact⟨rfl,az,ae.o.1,ae.o.2⟩
 simp only at v aQ A F;subst v aQ;rw[if_neg de,qxt]at b;unfold CaS.thruS at b;have hsl:=A.olt s rfl;obtain⟨-,aS,-,-,-,-,-,-,-⟩:=h2.cells;have aA:=(uur (fun _=>False) ax).drew;have aT:=qqh (wk (h2.new aA) k (by rw[h2.gl];exact j) x hx (by have:=L.bO;omega));have Z:=L.bw k x;generalize bj:writeR U.bF U.bO U.bP k x=r at*;have T:=Y11 (a8.trans (h2.ko aA)) aj b Z A F j hx h2.nx1 h2.ok D;clear h2 a8 aj b Z A F j hx L hsl D bj aA;go_upto_region 6 with fail
 refine qZc (S:=fun aU=>aU.cell? ⟨c,15,none⟩=some (ptr p.back)/\aU.rangeAt m 0 (bkC x)) kR (by(simp only[qYi,qYk]);exact⟨aS,Y⟩) (fun aB=>?_);refine Wl.i [0,1,2,3,4] ?_;iterate 5 refine Wl.t aB ?_
 refine Wl.o ?_;refine Wl.l 5 (fun w h=>h.2) av aw aB ?_;refine Wl.r 6 (fun K af=>?_);go_simp
 refine aT.out.mono ?_;rintro e aR ⟨rfl,az,G,ak⟩;obtain⟨-,aV,-,-,-,-,-,-,-⟩:=G.cells;have aa:=ak.upd.range (show ax.drew.rangeAt m 0 (bkC x) by rw[qYk];exact Y) (fun h=>h.1 T.o.2.1);have O:az m=0:=(ak.old m (qYh ax _ (Y 0 _ (by rw[qyk (by rw[zm,T.o.2.2.2.2.2.2.2.1];omega)])))).trans T.o.2.1;have ae:=Y3 G (T.o.1.trans ak) O;clear G ak O;refine af.o _ _ (⟨aV,aa⟩) (fun aW=>?_);clear af K;refine Wl.r 7 (fun K af=>?_);go_simp
 refine af.o _ _ (aW) (fun bn=>?_);clear af K;refine Wl.d ?_;clear aB aW bn aV Y aS aT;obtain⟨-,-,b,Z,A,F,j,hx,V,v,D⟩:=T.o;obtain⟨G,M,O⟩:=ae.o;obtain⟨aX,aC⟩:=qqe (r.cd);rw[<-aC]at b⊢;clear T ae;by_cases E:aX=0
 rotate_left
 .have aP:(aX==0)=false:=by simpa using E
  rw[if_pos E]at b;have aY:=qqh (zt.from M (xj G (s:Int) 3));obtain⟨-,-,-,-,-,cS,-,-,-⟩:=G.cells;have q:=qqh b;clear G M O b Z A F j hx V v D aa aC;go_wp2_with fail
  refine aY.o.mono ?_;rintro e aZ ⟨rfl,aD,W,a6⟩;have b0:=Y2 W a6;clear W a6 aY cS;go_wp2
  go_ret
  rw[q.o];exact⟨rfl,aD,b0.o.1,b0.o.2⟩
 subst E;rw[if_neg oe]at b;replace A:(U.kB r).Tie n (some s):=A;replace F:(U.kB r).next+1<=(U.kB r).cov+n.jo:=F;replace V:1<=(U.kB r).next:=V;generalize bp:U.kB r=b1 at*;unfold CaS.thruF at b;have hsl:=A.olt s rfl;have aE:=qqh (Tl G s hsl (k:Int) (.inr ⟨oM,oM⟩) x hx (by have:=Z.dO;omega));have J:=Z.ku (n:=n) s (k:Int) x;have H:=CaS.Tie.ku A (k:Int) x;have Q:=xX n b1 s (k:Int) x;generalize CaS.ku n b1 s (k:Int) x=r at*;obtain⟨b2,bq⟩:=r;simp only at aE b J H Q;have T:=Y12 M O b J H Q F j hx V v D;clear G M O b J H Q F j hx A Z hsl D V v aC bp;go_wp2_with (first
  |(refine qYz rfl _ _ rfl _ _ rfl _ _ aa av rfl aw ?_)
  |fail)
 refine aE.o.mono ?_;rintro e aZ ⟨rfl,aD,W,am⟩;obtain⟨M,O,b,J,H,Q,F,j,hx,V,v,D⟩:=T.o;have a6:=M.trans am;have aF:=am.upd.range aa (fun h=>h.1 O);have br:aD m=0:=(am.old m (qYh aR _ (aa 0 _ oS))).trans O;clear aa M O am aE;rcases H with⟨E,H⟩|⟨E,H⟩
 rotate_left
 .have aP:(bq==0)=false:=by simpa using E
  rw[if_pos E]at b;have b3:=qqh (zt.from a6 (WE W J oM H k (by rw[Q.1,Q.2];omega)));have q:=qqh b;clear W a6 b J H Q F j hx V v D aF br T;go_wp2_with fail
  refine b3.o.mono ?_;rintro e bs ⟨rfl,bt,ab,b4⟩;have b5:=Y2 ab b4;clear ab b4 b3;go_wp2
  go_ret
  rw[q.o];exact⟨rfl,bt,b5.o.1,b5.o.2⟩
 subst E;rw[if_neg oe]at b;obtain⟨bs,an⟩:=qqe (aZ.alloc (.cells #[.slice (some ⟨m,0,none⟩) 64 64] 269));have ao:=qqu an;have ab:=W.new ao;have b6:=ao.range aF id;have b7:=qqg an;have b8:=qqh (uQ (cl:=1) x ab.nib (za b7 0) b6 hx oM oM);have aG:=CaS.Tie.put H j (crcC x) false;have bu:=J.nx;have bv:=H.olt s rfl;have bx:=uP x;have b9:Hid (∀aH ag,CaAt aH ag c n p b2->Calls prog 310 #[ptr c,.int .i64 (k:Int),.int .i64 (s:Int),.int .i64 (crcC x:Int),.bool false] ag (zt aH ag c n p (b2.kz n (k:Int) s (crcC x) false).1 (.int .i64 0))):=by
  intro aH ag ba;have bD:maxLen>=60000:=by simp only[maxLen];omega
  have:=Tm ba (k:Int) s (crcC x) false (by rw[Q.1,Q.2];omega) oM (sL false ba.nx1 oM (by have:=v.j1;omega) ⟨oM,by have:=v.b2;omega⟩ (by have:=v.s2;omega) oM) aG.1 (by have:=J.iN;omega) oM (by have:=J.mN;omega) (by have:=J.kN;omega);rw[aG.2.1]at this;exact this
 have q:=Y4 ab (a6.trans (W.ko ao)) b an;clear W a6 b J H Q F j hx V v D ao ab b6 b7 aG bu bv bx an aF;go_wp2_with fail
 rw[<-q.o.2.2.2];refine b8.o.mono ?_;rintro e ag ⟨rfl,bb⟩;have aI:=qqb bb;have bc:=qqh (zt.from (q.o.2.1.trans (q.o.1.ko aI)) (b9.o _ _ (q.o.1.new aI)));have bz:=qqh q.o.2.2.1;clear aI bb b8 b9 q;go_wp2_with fail
 refine bc.o.mono ?_;rintro e bE ⟨rfl,bA,bd,be⟩;have bf:=Y2 bd be;clear bd be bc;go_wp2
 go_ret
 rw[bz.o];exact⟨rfl,bA,bf.o.1,bf.o.2⟩
end
def CaS.kG(n:CaN)(a:CaS)(k:Int)(x:Bk)(md:Int):CaS×Int:=
 if k<0\/(n.bl:Int)<=k then(a,10)else if md<0\/3<=md then(a,1)else if md=0 then a.kE n k.toNat x else if md=1 then a.thru n k.toNat x else a.kt n k.toNat x
def CaS.gone(n:CaN)(a:CaS)(k:Int):CaS×Int:=if k<0\/(n.bl:Int)<=k then(a,10)else a.kt n k.toNat zB
section
variable{own:Nat->Nat}{w w':World}{c:Nat}{n:CaN}{p:CaP}{a:CaS}{N:Nat}
theorem WF(h:CaAt own w c n p a)(k:Int):Calls prog 176 #[ptr c,.int .i64 k] w fun e w'=>e=.returned (.bool (decide (0<=k)&&decide (k<(n.bl:Int))))/\w'=w:=by
 have q:=h.sup.2.1;clear h;by_cases b:0<=k
 .have j:decide (0<=k)=true:=by simpa using b
  go_enter func176,ntmps176
  go_wp2
  go_ret
  exact⟨by simp[b],rfl⟩
 .have j:decide (0<=k)=false:=by simpa using b
  go_enter func176,ntmps176
  go_wp2
  go_ret
  exact⟨oe,rfl⟩
abbrev fnV(f:Nat):Value:=.func (.func f) #[] #[]
theorem Eh(w:World):Calls prog 177 #[] w fun e w'=>e=.returned (.agg #[fnV 241,fnV 242,fnV 178])/\Below w.heap.size w w':=by
 go_enter func177,ntmps177
 go_wp2
 have b:=zg (zc w (.cells [fnV 241,fnV 242,fnV 178].toArray 271) rfl);exact qYq (zq rfl _ _ w.heap.size 0 _ _ rfl b underlying271 rfl kR) rfl ⟨rfl,(qxl _ _).alloc (qXp _) _⟩
theorem Zcg22{P:Prop}(h:P:=by
  have Q:=Y2 O (V.o.2.trans D);clear O D;refine v.o _ _ (ab) (fun ad=>?_);clear v K;refine Wl.r 7 (fun K v=>?_);go_simp
  refine v.o _ _ (ad) (fun aI=>?_);clear v K;refine Wl.d ?_;go_wp2
  go_ret
  exact⟨rfl,aa,Q.o.1,Q.o.2⟩):P:=h
theorem Ei(h:CaAt own w c n p a)(X:a.Fit N)(Y:N+3*n.pa+n.jo+6<=50000)(Z:a.Tie n none)(k:Int)(x:Bk)(hx:x.length=64)(F:Int):
  Calls prog 107 #[ptr c,.int .i64 k,.agg (bkC x).toArray,.int .i64 F] w (zt own w c n p (a.kG n k x F).1 (.int .i64 (a.kG n k x F).2)):=by
 obtain⟨w1,ae⟩:=qqe (w.alloc (.cells (bkC x).toArray 60));have aj:=qqu ae;have T:=qqg ae;obtain⟨m,ak⟩:=qqe (w.heap.size);have ax:own m=0:=h.far _ oM;rw[<-ak]at T;have h1:=h.new aj;have a6:=h.ko aj;have a7:=qqh (WF h1 k);obtain⟨R,q⟩:=qqe (a.kG n k x F);rw[<-q];unfold CaS.kG at q;have am:=qqh ak;have aJ:=qqh ax;have ay:=qqh ae;have an:=underlying60;have ao:=zu x hx;have U:=Y8 h1 a6 T q X Y Z hx;clear h X Y Z hx aj T ax h1 a6 q ak ae;obtain⟨G,E⟩:=qqe ((decide (0<=k)&&decide (k<(n.bl:Int))));rw[<-E]at a7;cases G with
 |false=>
  replace E:=qqh E;go_enter func107,ntmps107
  go_wp2_with fail
  rw[<-ay.o];refine a7.o.mono ?_;rintro e az ⟨rfl,ap⟩;subst ap;have q:=U.o.2.2.2.1;rw[if_pos (by have:=E.out;simp at this;omega)]at q;have aK:=qqh q;clear q a7 E;go_wp2
  go_ret
  rw[aK.o];exact⟨rfl,own,U.o.1,U.o.2.1⟩
 |true=>
  have aA:0<=k/\k<(n.bl:Int):=by simpa using E.symm
  have q:=U.o.2.2.2.1;rw[if_neg oM]at q;have aB:=qqh aA;clear E aA;replace q:=qqh q;go_enter func107,ntmps107
  go_wp2_with fail
  rw[<-ay.o];refine a7.o.mono ?_;rintro e az ⟨rfl,ap⟩;subst ap;clear a7;go_wp2_with fail
  refine(Eh az).mono ?_;rintro e aC ⟨rfl,aD⟩;obtain⟨h1,a6,T,-,X,Y,Z,hx⟩:=U.o;have aq:=qqb aD;obtain⟨aL,af⟩:=qqe (aC.alloc (.cells #[fnV 241,fnV 242,fnV 178] 271));have aE:=qqu af;have a8:=qqg af;have ag:=aq.trans aE;have ah:=h1.new ag;have ar:=a6.trans (h1.ko ag);have au:=ag.range (zg T) id;have av:=(uur (fun _=>False) aL).drew;obtain⟨G,E⟩:=qqe (aC.heap.size);rw[<-E]at a8;have aF:=za a8 0;have aG:=za a8 1;have aH:=za a8 2;simp at aF aG aH;have V:=Y2 (ah.new av) (ar.trans (ah.ko av));have ai:=Y2 ah ar;have W:=Y2 (h1.far G (by have:=aq.size;omega)) aJ.o;have b:=Y6 X Y Z hx af E;clear h1 a6 T X Y Z hx aD aq aE a8 ag ah ar av U af E;by_cases aM:F<0
  .have j:=q.out;rw[if_pos oM]at j;replace j:=qqh j;go_wp2
   go_ret
   rw[<-b.o.2.2.2.2.1,j.out];exact⟨rfl,own,ai.out.1,ai.out.2⟩
  by_cases q1:3<=F
  .have j:=q.out;rw[if_pos oM]at j;replace j:=qqh j;have q2:decide (F<0)=false:=by simpa using aM
   go_wp2
   go_ret
   rw[<-b.o.2.2.2.2.1,j.out];exact⟨rfl,own,ai.out.1,ai.out.2⟩
  have j:=q.out;rw[if_neg oM]at j;have H:((k.toNat:Nat):Int)=k:=Int.toNat_of_nonneg aB.o.1;have aw:k.toNat<n.bl:=by have:=aB.o.2;omega
  rcases(show F=0\/F=1\/F=2 by omega)with rfl|rfl|rfl
  .rw [if_pos rfl]at j;have J:=qqh (zaM V.o.1 b.o.1 (by have:=b.o.2.1;omega) b.o.2.2.1 k.toNat aw x b.o.2.2.2.1);rw[H,<-j]at J;replace H:=qqh H;clear j q;go_upto_region 8 with fail
   rw[<-b.o.2.2.2.2.1,<-b.o.2.2.2.2.2,<-am.o];refine qZc (S:=fun L=>L.cell? ⟨G,0,none⟩=some (fnV 241)/\L.rangeAt m 0 (bkC x)) kR (by(simp only[qYi,qYk]);exact⟨aF,au⟩) (fun A=>?_);refine Wl.i [0,1,2,3,4] ?_;iterate 5 refine Wl.t A ?_
   refine Wl.o ?_;refine Wl.l 5 (fun w h=>h.2) an ao A ?_;refine Wl.r 6 (fun K v=>?_);go_simp
   refine J.o.mono ?_;rintro e M ⟨rfl,aa,O,D⟩;have ab:M.cell? ⟨G,0,none⟩=some (fnV 241)/\M.rangeAt m 0 (bkC x):=⟨D.upd.j3 A.1 (fun h=>h.1 W.o.1),D.upd.range A.2 (fun h=>h.1 W.o.2)⟩
   exact Zcg22
  .rw [if_neg de,if_pos rfl]at j;have J:=qqh (zaN V.o.1 b.o.1 (by have:=b.o.2.1;omega) b.o.2.2.1 k.toNat aw x b.o.2.2.2.1);rw[H,<-j]at J;replace H:=qqh H;clear j q;go_upto_region 8 with fail
   rw[<-b.o.2.2.2.2.1,<-b.o.2.2.2.2.2,<-am.o];refine qZc (S:=fun L=>L.cell? ⟨G,1,none⟩=some (fnV 242)/\L.rangeAt m 0 (bkC x)) kR (by(simp only[qYi,qYk]);exact⟨aG,au⟩) (fun A=>?_);refine Wl.i [0,1,2,3,4] ?_;iterate 5 refine Wl.t A ?_
   refine Wl.o ?_;refine Wl.l 5 (fun w h=>h.2) an ao A ?_;refine Wl.r 6 (fun K v=>?_);go_simp
   refine J.o.mono ?_;rintro e M ⟨rfl,aa,O,D⟩;have ab:M.cell? ⟨G,1,none⟩=some (fnV 242)/\M.rangeAt m 0 (bkC x):=⟨D.upd.j3 A.1 (fun h=>h.1 W.o.1),D.upd.range A.2 (fun h=>h.1 W.o.2)⟩
   exact Zcg22
  .rw [if_neg de,if_neg de]at j;have J:=qqh (vZ V.o.1 b.o.1 (by have:=b.o.2.1;omega) b.o.2.2.1 k.toNat aw x b.o.2.2.2.1);rw[H,<-j]at J;replace H:=qqh H;clear j q;go_upto_region 8 with fail
   rw[<-b.o.2.2.2.2.1,<-b.o.2.2.2.2.2,<-am.o];refine qZc (S:=fun L=>L.cell? ⟨G,2,none⟩=some (fnV 178)/\L.rangeAt m 0 (bkC x)) kR (by(simp only[qYi,qYk]);exact⟨aH,au⟩) (fun A=>?_);refine Wl.i [0,1,2,3,4] ?_;iterate 5 refine Wl.t A ?_
   refine Wl.o ?_;refine Wl.l 5 (fun w h=>h.2) an ao A ?_;refine Wl.r 6 (fun K v=>?_);go_simp
   refine J.o.mono ?_;rintro e M ⟨rfl,aa,O,D⟩;have ab:M.cell? ⟨G,2,none⟩=some (fnV 178)/\M.rangeAt m 0 (bkC x):=⟨D.upd.j3 A.1 (fun h=>h.1 W.o.1),D.upd.range A.2 (fun h=>h.1 W.o.2)⟩
   exact Zcg22
end
section
variable{own:Nat->Nat}{w w':World}{c:Nat}{n:CaN}{p:CaP}{a:CaS}{N:Nat}
theorem Ub(h:CaAt own w c n p a)(E:a.Fit N)(F:N+n.pa+2<=50000)(G:a.Tie n none)(k:Int):
  Calls prog 108 #[ptr c,.int .i64 k] w (zt own w c n p (a.gone n k).1 (.int .i64 (a.gone n k).2)):=by
 have j:=qqh (WF h k);have b:=Y4 h E F G;clear h E F G;obtain⟨M,q⟩:=qqe ((decide (0<=k)&&decide (k<(n.bl:Int))));rw[<-q]at j;cases M with
 |false=>
  have v:k<0\/(n.bl:Int)<=k:=by simp at q;omega
  have e:a.gone n k=(a,10):=by unfold CaS.gone;rw[if_pos v]
  rw[e];clear q v e;go_enter func108,ntmps108
  go_wp2_with fail
  refine j.o.mono ?_;rintro e O ⟨rfl,A⟩;subst A;clear j;go_wp2
  go_ret
  exact⟨rfl,own,b.o.1,Did.refl b.o.1.far⟩
 |true=>
  have v:0<=k/\k<(n.bl:Int):=by simpa using q.symm
  have e:a.gone n k=a.kt n k.toNat zB:=by unfold CaS.gone;rw[if_neg oM]
  rw[e];have D:=qqh (vZ b.o.1 b.o.2.1 b.o.2.2.1 b.o.2.2.2 k.toNat oM zB rfl);rw[Int.toNat_of_nonneg v.1]at D;clear q v e;go_enter func108,ntmps108
  go_wp2_with fail
  refine j.o.mono ?_;rintro e O ⟨rfl,A⟩;subst A;clear j;go_wp2_with fail
  rw[zcm];refine D.o.mono ?_;rintro e S ⟨rfl,Q,H,J⟩;have L:=Y2 H J;clear H J D;generalize (bkC zB).toArray=T at*;go_wp2
  go_ret
  exact⟨rfl,Q,L.o.1,L.o.2⟩
theorem sP(b:CaAt own w c n p a):Calls prog 145 #[ptr c] w (zt own w c n p a (.tuple #[ptr p.ssd,ptr p.back])):=by
 obtain⟨q,c1,-,-,-,-,-,-,-⟩:=b.cells;have h:=qqh b;clear b;go_enter func145,ntmps145
 go_wp2
 go_quiet(fail)
 go_wp2
 go_ret2
 have j:=(uur (fun _=>False) w).drewN nq;exact⟨rfl,own,h.o.new j,h.o.ko j⟩
end
def CaS.ldE(n:CaN)(a:CaS)(x:Ent):CaS:={a with iN:=a.iN+1,ps:=xy a.ps n.sl (x.b:Int) (x.s:Int) x.d,st:=turnList (turnList a.st (x.s:Int) 1) (x.s:Int) 2,G:=Zh (scrubG a.G x.s) x.s (x.b:Int),kN:=a.kN+1,K:=Zj n.sl a.K (x.b:Int),A:=Qy n.sl a.K a.A a.H (x.b:Int),H:=Qz n.sl a.K a.H (x.b:Int),mN:=a.mN+1,sums:=yP a.sums (x.b:Int) (some x.m)}
def CaS.ldTo(n:CaN)(a:CaS)(L:List Ent):CaS:=L.foldl (CaS.ldE n) a
section
variable{n:CaN}{a:CaS}
theorem CaS.Tie.ldE(h:a.Tie n none)(x:Ent)(j:x.b<n.bl)(hs:x.s<n.sl)(q:a.st.getD x.s 0=0)(v:plc a.ps x.b=(-1,false)):
  putC a.ps n.sl (x.b:Int) (x.s:Int)=0/\ti a.ps n.sl (x.b:Int) (x.s:Int)=(-1,false)/\(a.ldE n x).Tie n none/\(a.ldE n x).ps=a.ps.set x.b ((x.s:Int),x.d)/\(a.ldE n x).st=a.st.set x.s 2:=by
 obtain⟨-,G⟩:=vY (l:=a.st) (s:=x.s) (t:=1) jQ de (by rw[q];decide);have h1:TieL n.bl n.sl a.ps (a.st.set x.s 1) a.K (some x.s):=TieL.turned h hs (by rw[q];decide) de ⟨de,de⟩ (fun r A=>by
  by_cases e:r=x.s
  .subst e;simp
  .rw [if_neg e];have H:¬x.s=r:=fun h=>e h.symm;simp[H]) (fun r A=>by cases A;exact hs)
 obtain⟨D,J,S,L,M,-⟩:=TieL.put h1 j x.d;obtain⟨O,Q,E⟩:=M v;have F:(a.ldE n x).st=a.st.set x.s 2:=by
  show turnList (turnList a.st (x.s:Int) 1) (x.s:Int) 2=_;rw[G,L,List.set_set]
 refine⟨TieL.putC h1 j,J.trans v,?_,D,F⟩;show TieL n.bl n.sl (a.ldE n x).ps (a.ldE n x).st (a.ldE n x).K none;rw[F,show(a.ldE n x).ps=_ from D,show(a.ldE n x).K=a.K++[(x.b:Int)] by show Zj n.sl a.K (x.b:Int)=_;unfold Zj;rw[if_neg (by simp[O,Q])]];rw[List.set_set]at E;exact E
structure CaS.Ld(n:CaN)(a:CaS)(L:List Ent)(b:CaS):Prop where
 tie:b.Tie n none
 got:∀x∈L,plc b.ps x.b=((x.s:Int),x.d)/\b.sums (x.b:Int)=some x.m/\b.st.getD x.s 0=2
 blk:∀k:Nat,(∀x∈L,x.b≠k)->plc b.ps k=plc a.ps k/\b.sums (k:Int)=a.sums (k:Int)
 slt:∀s:Nat,(∀x∈L,x.s≠s)->b.st.getD s 0=a.st.getD s 0
 num:b.iN=a.iN+L.length/\b.kN=a.kN+L.length/\b.mN=a.mN+L.length
 oth:b.which=a.which/\b.dF=a.dF/\b.dO=a.dO/\b.dP=a.dP/\b.bF=a.bF/\b.bO=a.bO/\b.bP=a.bP/\b.cov=a.cov/\b.next=a.next/\b.W=a.W
theorem CaS.ldTo_ok:∀(L:List Ent) {a:CaS},a.Tie n none->(∀x∈L,x.b<n.bl/\x.s<n.sl)->(L.map (·.s)).Nodup->(L.map (·.b)).Nodup->(∀x∈L,a.st.getD x.s 0=0/\plc a.ps x.b=(-1,false))->CaS.Ld n a L (a.ldTo n L)
 |[],a,h,_,_,_,_=>⟨h,fun x hx=>(by cases hx),fun _ _=>⟨rfl,rfl⟩,fun _ _=>rfl,⟨rfl,rfl,rfl⟩,⟨rfl,rfl,rfl,rfl,rfl,rfl,rfl,rfl,rfl,rfl⟩⟩
 |x::L,a,h,H,v,A,J=>by
  obtain⟨M,O⟩:=H x qzp;obtain⟨X,Y⟩:=J x qzp;obtain⟨-,-,Z,a6,a7⟩:=CaS.Tie.ldE h x M O X Y;rw[qzi,qzx]at v A;have D:∀k,plc (a.ldE n x).ps k=if k=x.b then((x.s:Int),x.d)else plc a.ps k:=fun k=>by rw[a6,xD _ _ _ _ (by rw[h.hpl];exact M)]
  have E:∀s,(a.ldE n x).st.getD s 0=if x.s=s then 2 else a.st.getD s 0:=fun s=>by
   rw[a7,yN];by_cases e:x.s=s
   .rw [if_pos ⟨e,by rw[h.hsl];exact O⟩,if_pos e]
   .rw [if_neg (fun a8=>e a8.1),if_neg e]
  have Q:∀k:Int,(a.ldE n x).sums k=if k=(x.b:Int)then some x.m else a.sums k:=fun k=>rfl
  have S:∀y∈L,y.b≠x.b:=fun y hy e=>A.1 (by rw[<-e];exact List.mem_map_of_mem hy);have T:∀y∈L,y.s≠x.s:=fun y hy e=>v.1 (by rw[<-e];exact List.mem_map_of_mem hy);have j:=CaS.ldTo_ok L Z (fun y hy=>H y (qzo _ hy)) v.2 A.2 (fun y hy=>by
   obtain⟨q1,q2⟩:=J y (qzo _ hy);exact⟨by rw[E,if_neg (fun e=>T y hy e.symm)];exact q1,by rw[D,if_neg (S y hy)];exact q2⟩)
  show CaS.Ld n a (x::L) ((a.ldE n x).ldTo n L);obtain⟨aa,ab,ad⟩:=j.num;refine⟨j.tie,fun y hy=>?_,fun k U=>?_,fun s V=>?_,⟨?_,?_,?_⟩,j.oth⟩
  .rcases qzn.1 hy with rfl|hy
   .obtain ⟨F,G⟩:=j.blk y.b (fun z q=>S z q);refine⟨?_,?_,?_⟩
    .rw [F,D,if_pos rfl]
    .rw [G,Q,if_pos rfl]
    .rw [j.slt y.s (fun z q=>T z q),E,if_pos rfl]
   .exact j.got y hy
  .obtain ⟨F,G⟩:=j.blk k (fun z q=>U z (qzo _ q));have W:=U x qzp;exact⟨by rw[F,D,if_neg (fun e=>W e.symm)],by rw[G,Q,if_neg (fun e=>W oM)]⟩
  .rw [j.slt s (fun z q=>V z (qzo _ q)),E,if_neg (V x qzp)]
  .rw [aa];show a.iN+1+L.length=_;rw[qza];omega
  .rw [ab];show a.kN+1+L.length=_;rw[qza];omega
  .rw [ad];show a.mN+1+L.length=_;rw[qza];omega
theorem CaS.ldTo_sums:∀(L:List Ent) {a:CaS} {B:Nat},(∀x∈L,x.m<=B)->(∀k h,a.sums k=some h->h<=B)->∀k h,(a.ldTo n L).sums k=some h->h<=B
 |[],_,_,_,q=>q
 |x::L,a,B,v,q=>by
  refine CaS.ldTo_sums L (a:=a.ldE n x) (fun y hy=>v y (qzo _ hy)) (fun k h j=>?_);have A:(a.ldE n x).sums k=if k=(x.b:Int)then some x.m else a.sums k:=rfl
  rw[A]at j;split at j
  .cases j;exact v x qzp
  .exact q k h j
end
end Go.Proofs.YtpejdgiccaijfaaGreatDoor
