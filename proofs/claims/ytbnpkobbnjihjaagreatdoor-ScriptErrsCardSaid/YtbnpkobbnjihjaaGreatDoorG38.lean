/- A run's ops of -/
import Derived.Test.YtbnpkobbnjihjaaGreatDoorG35
set_option maxRecDepth 100000
set_option maxHeartbeats 2000000
namespace Go.Proofs.YtbnpkobbnjihjaaGreatDoor
open Go Go.RowKit Tryz
variable{S:Nat->Prop}{N:Nat}
section
variable{own:Nat->Nat}{w:World}{r v:Nat}{q:VoP}{n:CaN}{p:CaP}{a:CaS}{md:Int}{cl:Bool}{d fr m fi cd nn:Int}{kp:Value}
def VoW(S:Nat->Prop)(w:World)(f:Nat)(args:Array Value)(cd nn:Int):Prop:=
 ∀W,Upd (fun _=>False) w W->Calls prog f args W fun e W'=>e=.returned (.tuple #[.int .i64 nn,.int .i64 cd])/\Upd (fun j=>S j/\j<w.heap.size\/W.heap.size<=j) W W'
def ScW(S:Nat->Prop)(w:World)(cd nn:Int)(e:Ending)(w':World):Prop:=
 e=.returned (.agg #[.int .i64 cd,.int .i64 nn,.slice none 0 0])/\Upd (fun j=>S j/\j<w.heap.size\/w.heap.size<=j) w w'
theorem zbK(h:RunAt own w r v q n p a md cl)(D:¬S r)(Q:VoW S w 82 #[ptr v,.int .i64 fr] cd nn):
  Calls prog 46 #[ptr r,xI d fr m fi kp] w (ScW S w cd nn):=by
 obtain⟨ob,j⟩:=qqe (w.heap.size);obtain⟨w1,F⟩:=qqe ((w.alloc (.cells #[.int .i64 d,.int .i64 fr,.int .i64 m,.int .i64 fi,kp] 25)).alloc (.cells #[.int .i64 0,.int .i64 0,.slice none 0 0] 45));have b:Upd (fun _=>False) w w1:=by rw[F];exact((uur _ w).alloc _).alloc _
 have s:w1.heap[ob]?=some (.cells [.int .i64 d,.int .i64 fr,.int .i64 m,.int .i64 fi,kp].toArray 25 (0,0)):=by rw[F,j];exact(qxk _ _ _ oe).trans (zc w _ rfl)
 have A:w1.heap[ob+1]?=some (.cells #[.int .i64 0,.int .i64 0,.slice none 0 0] 45 (0,0)):=by rw[F,j];exact zc _ _ oe
 have J:=za (h.new b).g 5;have K:=za s 1;simp at J K;have L:=(uur (fun _=>False) w1).drew;have R:=qqh (Q _ (b.trans L));have T:=Y7 j b s A D (zd h.g) L.size;have U:=Y2 F j;clear h F j b s A D Q L;go_enter func46,ntmps46
 go_upto_region 1 with fail
 rw[<-U.o.1,<-U.o.2];refine qZd (S:=fun V=>V.cell? ⟨r,5,none⟩=some (ptr v)/\V.cell? ⟨ob,1,none⟩=some (.int .i64 fr)) kR (⟨by rw[qYi];exact J,by rw[qYi];exact K⟩) (fun aa=>?_);refine Wl.i [0,1,2,3,4,5] ?_;iterate 6 refine Wl.t aa ?_
 refine Wl.o ?_;refine Wl.r 6 (fun G k=>?_);go_simp
 refine R.o.mono ?_;rintro e W ⟨rfl,H⟩;obtain⟨j,b,s,A,D,X,Y⟩:=T.o;have ab:=zd s;have ad:=zd A;have ae:=H.jU (show w1.drew.cell? ⟨r,5,none⟩=some (ptr v) by rw[qYi];exact J) (fun e=>e.elim (fun e=>D e.1) (fun e=>by replace e:w1.drew.heap.size<=r:=e;omega));have af:=H.jU (show w1.drew.cell? ⟨ob,1,none⟩=some (.int .i64 fr) by rw[qYi];exact K) (fun e=>e.elim (fun e=>by have:=e.2;omega) (fun e=>by replace e:w1.drew.heap.size<=ob:=e;omega));have M:=((uur (fun _=>False) w1).drew).jV A;have O:=(H.block (ob+1) (zd M) (fun e=>e.elim (fun e=>by have:=e.2;omega) (fun e=>by replace e:w1.drew.heap.size<=ob+1:=e;omega))).trans M;have Z:=zy O (n:=3) de;have a6:=Y2 O H;clear H R j b s A D X Y ab ad M O;refine k.o _ _ (⟨ae,af⟩) (fun a7=>?_);clear k G;refine Wl.i [7,8,9] ?_;iterate 3 refine Wl.t a7 ?_
 refine Wl.o ?_;refine Wl.r 10 (fun G k=>?_);go_simp
 refine k.o _ _ (a7) (fun ag=>?_);clear k G;refine Wl.r 11 (fun G k=>?_);go_simp
 refine k.o _ _ (ag) (fun aj=>?_);clear k G;refine Wl.d ?_;go_wp2_with (first
  |(refine qZc rfl _ _ _ rfl _ _ [.int .i64 cd,.int .i64 nn,.slice none 0 0].toArray rfl rfl Z zO (qYo (yA rfl)) ?_)
  |fail)
 obtain⟨j,b,s,A,D,X,Y⟩:=T.o;have ak:=b.size;have am:=a6.o.1;have ah:(W.setCells (ob+1) 0 [.int .i64 cd,.int .i64 nn,.slice none 0 0]).rangeAt (ob+1) 0 [.int .i64 cd,.int .i64 nn,.slice none 0 0]:=qYl _ _ _ _ (by exact Z);refine qYq (zq rfl _ _ (ob+1) 0 [.int .i64 cd,.int .i64 nn,.slice none 0 0] _ rfl ah underlying45 rfl zO) rfl ⟨rfl,?_⟩;have a8:Upd (fun E=>S E/\E<w.heap.size\/w.heap.size<=E) w w1.drew:=(b.mono fE).trans (uur _ w1).drew;have ai:=a8.size;exact(a8.trans (a6.o.2.mono (fun E _ e=>e.imp id (fun e=>qXr ai e)))).trans ((zo W (ob+1) 0 _).mono (fun E _ e=> .inr (by replace e:E=ob+1:=e;omega)))
theorem WJ(h:RunAt own w r v q n p a md cl)(ai:kp.oneCell'=true)(E:¬S r)(U:VoW S w 81 #[ptr v,ut fr m] cd nn):
  Calls prog 45 #[ptr r,xI d fr m fi kp] w (ScW S w cd nn):=by
 obtain⟨ob,j⟩:=qqe (w.heap.size);obtain⟨w1,G⟩:=qqe ((w.alloc (.cells #[.int .i64 d,.int .i64 fr,.int .i64 m,.int .i64 fi,kp] 25)).alloc (.cells #[.int .i64 0,.int .i64 0,.slice none 0 0] 45));have k:Upd (fun _=>False) w w1:=by rw[G];exact((uur _ w).alloc _).alloc _
 have s:w1.heap[ob]?=some (.cells [.int .i64 d,.int .i64 fr,.int .i64 m,.int .i64 fi,kp].toArray 25 (0,0)):=by rw[G,j];exact(qxk _ _ _ oe).trans (zc w _ rfl)
 have A:w1.heap[ob+1]?=some (.cells #[.int .i64 0,.int .i64 0,.slice none 0 0] 45 (0,0)):=by rw[G,j];exact zc _ _ oe
 have M:=za (h.new k).g 5;simp at M;have V:=zf s;have W:=(uur (fun _=>False) w1).drew;have aj:=qqh U;have ak:=underlying25;have am:=wn;have O:=Y7 j k s A E (zd h.g) W.size;have X:=Y2 G j;clear h G j k s A E U W;go_enter func45,ntmps45
 go_upto_region 1 with fail
 rw[<-X.o.1,<-X.o.2];refine qZd (S:=fun Y=>Y.cell? ⟨r,5,none⟩=some (ptr v)/\Y.rangeAt ob 0 [.int .i64 d,.int .i64 fr,.int .i64 m,.int .i64 fi,kp]) kR (⟨by rw[qYi];exact M,by rw[qYk];exact V⟩) (fun Z=>?_);refine Wl.i [0,1,2,3] ?_;iterate 4 refine Wl.t Z ?_
 refine Wl.o ?_;refine Wl.l 4 (fun w h=>h.2) ak am Z ?_;refine Wl.r 5 (fun D b=>?_);go_simp
 refine(YE ai _).mono ?_;rintro e K ⟨rfl,a6⟩;have H:Upd (fun _=>False) w1.drew K:=uuo a6;have a7:=H.jU (show w1.drew.cell? ⟨r,5,none⟩=some (ptr v) by rw[qYi];exact M) (fun h=>h);have a8:=H.range (show w1.drew.rangeAt ob 0 [.int .i64 d,.int .i64 fr,.int .i64 m,.int .i64 fi,kp] by rw[qYk];exact V) (fun h=>h);have aa:=qqh (aj.o _ ((O.o.2.1.trans (uur _ w1).drew).trans H));have Q:=qqh H;clear a6 H;refine b.o _ _ (⟨a7,a8⟩) (fun ax=>?_);clear b D;refine Wl.r 6 (fun D b=>?_);go_simp
 refine aa.o.mono ?_;rintro e ab ⟨rfl,J⟩;obtain⟨j,k,s,A,E,ad,ae⟩:=O.o;have an:=zd s;have ao:=zd A;have ap:=Q.o.size;have aq:=J.jU a7 (fun e=>e.elim (fun e=>E e.1) (fun e=>by replace e:K.heap.size<=r:=e;omega));have ar:=J.range a8 (fun e=>e.elim (fun e=>by have:=e.2;omega) (fun e=>by replace e:K.heap.size<=ob:=e;omega));have R:=Q.o.jV (((uur (fun _=>False) w1).drew).jV A);have T:=(J.block (ob+1) (zd R) (fun e=>e.elim (fun e=>by have:=e.2;omega) (fun e=>by replace e:K.heap.size<=ob+1:=e;omega))).trans R;have af:=zy T (n:=3) de;have ag:=Y2 T J;clear J aa j k s A E ad ae an ao R T ap;refine b.o _ _ (⟨aq,ar⟩) (fun ah=>?_);clear b D;refine Wl.i [7,8,9] ?_;iterate 3 refine Wl.t ah ?_
 refine Wl.o ?_;refine Wl.r 10 (fun D b=>?_);go_simp
 refine b.o _ _ (ah) (fun au=>?_);clear b D;refine Wl.r 11 (fun D b=>?_);go_simp
 refine b.o _ _ (au) (fun ay=>?_);clear b D;refine Wl.d ?_;go_wp2_with (first
  |(refine qZc rfl _ _ _ rfl _ _ [.int .i64 cd,.int .i64 nn,.slice none 0 0].toArray rfl rfl af zO (qYo (yA rfl)) ?_)
  |fail)
 obtain⟨j,k,s,A,E,ad,ae⟩:=O.o;have az:=k.size;have aA:=ag.o.1;have av:(ab.setCells (ob+1) 0 [.int .i64 cd,.int .i64 nn,.slice none 0 0]).rangeAt (ob+1) 0 [.int .i64 cd,.int .i64 nn,.slice none 0 0]:=qYl _ _ _ _ (by exact af);refine qYq (zq rfl _ _ (ob+1) 0 [.int .i64 cd,.int .i64 nn,.slice none 0 0] _ rfl av underlying45 rfl zO) rfl ⟨rfl,?_⟩;have L:Upd (fun F=>S F/\F<w.heap.size\/w.heap.size<=F) w w1.drew:=(k.mono fE).trans (uur _ w1).drew;have L:=L.trans (Q.o.mono fE);have aw:=L.size;exact(L.trans (ag.o.2.mono (fun F _ e=>e.imp id (fun e=>qXr aw e)))).trans ((zo ab (ob+1) 0 _).mono (fun F _ e=> .inr (by replace e:F=ob+1:=e;omega)))
theorem Ac(h:RunAt own w r v q n p a md cl)(E:¬S r)(L:∀A,Upd (fun _=>False) w A->Calls prog 84 #[ptr v] A fun e V=>e=.returned (.tuple #[.slice none 0 0,.int .i64 cd])/\Upd (fun b=>S b/\b<w.heap.size\/A.heap.size<=b) A V):
  Calls prog 48 #[ptr r,xI d fr m fi kp] w (ScW S w cd 0):=by
 obtain⟨ob,k⟩:=qqe (w.heap.size);obtain⟨w1,s⟩:=qqe ((w.alloc (.cells #[.int .i64 d,.int .i64 fr,.int .i64 m,.int .i64 fi,kp] 25)).alloc (.cells #[.int .i64 0,.int .i64 0,.slice none 0 0] 45));have j:Upd (fun _=>False) w w1:=by rw[s];exact((uur _ w).alloc _).alloc _
 have F:w1.heap[ob]?=some (.cells [.int .i64 d,.int .i64 fr,.int .i64 m,.int .i64 fi,kp].toArray 25 (0,0)):=by rw[s,k];exact(qxk _ _ _ oe).trans (zc w _ rfl)
 have G:w1.heap[ob+1]?=some (.cells #[.int .i64 0,.int .i64 0,.slice none 0 0] 45 (0,0)):=by rw[s,k];exact zc _ _ oe
 have W:=za (h.new j).g 5;simp at W;have M:=qqh (L _ j);have H:=Y6 k j F G E (zd h.g);have O:=Y2 s k;clear h s k j F G E L;go_enter func48,ntmps48
 go_upto_region 1 with fail
 rw[<-O.o.1,<-O.o.2];go_wp2_with fail
 refine M.o.mono ?_;rintro e Q ⟨rfl,J⟩;have D:=H.o.2.2.2.1;have K:=(J.block (ob+1) (zd D) (fun e=>e.elim (fun e=>by have:=e.2;have:=H.o.1;omega) (fun e=>by have:=zd D;omega))).trans D;have R:=zy K (n:=3) de;have T:=Y2 K J;clear J M D K;go_wp2_with (first
  |(refine qZc rfl _ _ _ rfl _ _ [.int .i64 cd,.int .i64 0,.slice none 0 0].toArray rfl rfl R zO (qYo (yA rfl)) ?_)
  |fail)
 obtain⟨k,j,F,G,E,Z⟩:=H.o;have a6:=j.size;have a7:=T.o.1;have X:(Q.setCells (ob+1) 0 [.int .i64 cd,.int .i64 0,.slice none 0 0]).rangeAt (ob+1) 0 [.int .i64 cd,.int .i64 0,.slice none 0 0]:=qYl _ _ _ _ (by exact R);refine qYq (zq rfl _ _ (ob+1) 0 [.int .i64 cd,.int .i64 0,.slice none 0 0] _ rfl X underlying45 rfl zO) rfl ⟨rfl,?_⟩;have U:Upd (fun b=>S b/\b<w.heap.size\/w.heap.size<=b) w w1:=j.mono fE;have Y:=U.size;exact(U.trans (T.o.2.mono (fun b _ e=>e.imp id (fun e=>qXr Y e)))).trans ((zo Q (ob+1) 0 _).mono (fun b _ e=> .inr (by replace e:b=ob+1:=e;omega)))
def DoW(S:Nat->Prop)(w:World)(cd nn:Int)(e:Ending)(w':World):Prop:=
 e=.returned (.agg #[.int .i64 cd,.int .i64 nn,.slice none 0 0])/\Upd (fun j=>S j/\j<w.heap.size\/w.heap.size<=j) w w'
theorem Ul(fd:Nat)(h:RunAt own w r v q n p a md cl)(E:0<=d/\d<13)(F:d=1\/d=2->1<=m/\m<=64)(G:kp.oneCell'=true)
  (H:∀b:World,(Instr.index 72 (.agg Rm) (.int .i64 d)).run prog b=.ok (.func (.func fd) #[] #[]) b) (J:∀A w,(callFunc fd A).run prog w=.ok (.enter fd A) w)
  (K:∀b,Upd (fun _=>False) w b->Calls prog fd #[ptr r,xI d fr m fi kp] b (ScW (fun j=>S j/\j<w.heap.size) b cd nn)):
  Calls prog 10 #[ptr r,xI d fr m fi kp] w (DoW S w cd nn):=by
 refine(EE (cd:=cd) (nn:=nn) fd (fun u s=>u=.slice none 0 0/\Upd (fun j=>S j/\j<w.heap.size\/w.heap.size<=j) w s) h E F G H J (fun b k L=>?_) ?_).mono ?_
 .refine (K b k).mono ?_;rintro e s ⟨rfl,D⟩;refine⟨_,rfl,rfl,D.mono (fun j _ h=>h.imp (fun h=>h.1.2) id),rfl,?_⟩;exact(k.mono fE).trans (D.mono (fun j _ h=>h.imp (fun h=>h.1) (fun h=>oM)))
 .rintro b s u-k ⟨h1,h2⟩;exact⟨h1,h2.trans (k.mono (fun j _ h=> .inr oM))⟩
 .rintro e M ⟨u,rfl,rfl,k⟩;exact⟨rfl,k⟩
end
section
variable{own:Nat->Nat}{w:World}{r v:Nat}{q:VoP}{n:CaN}{p:CaP}{a:CaS}{md:Int}{cl:Bool}{d fr m fi cd nn:Int}{kp:Value}
abbrev WK(own:Nat->Nat)(v:Nat)(q:VoP)(j:Nat):Prop:=own j≠0/\own j<16\/j=v\/j=q.mb
theorem RunAt.out(b:RunAt own w r v q n p a md cl):¬WK own v q r:=fun e=>by
 rcases e with e|e|e
 .exact e.1 b.o
 .have h:=b.g;rw[e,b.vo.g]at h;cases h
 .have h:=b.g;obtain⟨k,⟨s,A,j,-⟩,-⟩:=b.vo.lk.2;rw[e,j]at h;cases h
theorem WK.of{W j k:World}(h:RunAt own w r v q n p a md cl)(E:w.heap.size<=W.heap.size)(s:Upd (fun b=>b=v\/b=q.mb\/own b=2\/j.heap.size<=b) j k):Upd (fun b=>(WK own v q b/\b<w.heap.size)/\b<W.heap.size\/j.heap.size<=b) j k:=by
 have F:=zd h.vo.g;have G:=h.vo.lk.2.lt;refine s.mono (fun b _ e=>?_);rcases e with e|e|e|e
 .exact .inl ⟨⟨.inr (.inl e),oM⟩,oM⟩
 .exact .inl ⟨⟨.inr (.inr e),oM⟩,oM⟩
 .have A:b<w.heap.size:=by
   by_cases D:b<w.heap.size
   .exact D
   .rw [h.vo.ca.far b oM]at e;cases e
  exact .inl ⟨⟨.inl ⟨oM,oM⟩,A⟩,oM⟩
 .exact .inr e
structure NoL(own:Nat->Nat)(w:World)(q:VoP)(n:CaN)(p:CaP)(a:CaS):Prop where
 l:L3At own w q.li q.lc q.lf n p.ssd
 p:a.dP=[]
 z:EN n a.dF a.dO
 o:a.dO.length<65000
theorem Ad(h:RunAt own w r v q n p a md false)(j:NoL own w q n p a)(k:kp.oneCell'=true):
  ∃cd:Int,(inS n.bl fr m->cd=0)/\(¬inS n.bl fr m->cd=10)/\Calls prog 10 #[ptr r,xI 5 fr m fi kp] w (DoW (WK own v q) w cd 0):=by
 by_cases s:inS n.bl fr m
 .refine ⟨0,fun _=>rfl,fun e=>absurd s e,?_⟩;refine Ul 45 h de (fun e=>oM) k (fun A=>kR) (enters_of func45 kR rfl) (fun A b=>?_);refine WJ (h.new b) k (fun e=>h.out e.1) (fun G D=>?_);have F:=(b.trans D)
  refine(EU (h.vo.new F) (j.l.new F) j.p j.z j.o s).mono ?_;rintro e H ⟨rfl,E⟩;exact⟨rfl,WK.of h b.size E⟩
 .refine ⟨10,fun e=>absurd e s,fun _=>rfl,?_⟩;refine Ul 45 h de (fun e=>oM) k (fun A=>kR) (enters_of func45 kR rfl) (fun A b=>?_);refine WJ (h.new b) k (fun e=>h.out e.1) (fun G D=>?_);refine(WE (h.vo.new (b.trans D)) s).mono ?_;rintro e H ⟨rfl,E⟩;exact⟨rfl,E.mono fE⟩
theorem WK.did{own':Nat->Nat}{W j k:World}(h:RunAt own w r v q n p a md cl)(D:w.heap.size<=W.heap.size)(d:Did own own' j k):Upd (fun b=>(WK own v q b/\b<w.heap.size)/\b<W.heap.size\/j.heap.size<=b) j k:=by
 refine d.upd.mono (fun b _ e=>?_);have s:b<w.heap.size:=by
  by_cases A:b<w.heap.size
  .exact A
  .exact absurd (h.vo.ca.far b oM) e.1
 exact .inl ⟨⟨.inl e,s⟩,oM⟩
theorem zbM(h:RunAt own w r v q n p a md false)(b:NoL own w q n p a)(s:kp.oneCell'=true):Calls prog 10 #[ptr r,xI 6 fr m fi kp] w (DoW (WK own v q) w 14 0):=by
 refine Ul 46 h de (fun e=>oM) s (fun A=>kR) (enters_of func46 kR rfl) (fun A j=>?_);refine zbK (h.new j) (fun e=>h.out e.1) (fun E D=>?_);have k:=(j.trans D)
 refine(zbB (h.vo.new k) (b.l.new k) b.p b.z).mono ?_;rintro e F ⟨rfl,G,-,d⟩;exact⟨rfl,WK.did h j.size d⟩
theorem Ae(h:RunAt own w r v q n p a md false)(b:NoL own w q n p a)(s:kp.oneCell'=true):Calls prog 10 #[ptr r,xI 8 fr m fi kp] w (DoW (WK own v q) w 0 0):=by
 refine Ul 48 h de (fun e=>oM) s (fun A=>kR) (enters_of func48 kR rfl) (fun A j=>?_);refine Ac (h.new j) (fun e=>h.out e.1) (fun E D=>?_);have k:=(j.trans D)
 refine(EO (h.vo.new k) (b.l.new k) b.p b.z).mono ?_;rintro e F ⟨rfl,G,-,d⟩;exact⟨rfl,WK.did h j.size d⟩
end
section
variable{own:Nat->Nat}{w:World}{r v:Nat}{q:VoP}{n:CaN}{p:CaP}{a:CaS}{md:Int}{cl:Bool}{d fr m fi cd nn:Int}{kp:Value}
theorem Um(b:(fr≠0/\fr≠1)\/m<0\/64<m):Calls prog 51 #[ptr r,xI d fr m fi kp] w (ScW S w 1 0):=by
 have hx:(¬fr=0/\¬fr=1)\/(fr=0/\m<0)\/(fr=0/\¬m<0/\m>64)\/(fr=1/\m<0)\/(fr=1/\¬m<0/\m>64):=oM;clear b;rcases hx with⟨q1,q2⟩|⟨rfl,q1⟩|⟨rfl,q1,q2⟩|⟨rfl,q1⟩|⟨rfl,q1,q2⟩
 all_goals
  go_enter func51,ntmps51
  go_wp2
  refine qYq (zq rfl _ _ (w.heap.size+1) 0 [.int .i64 1,.int .i64 0,.slice none 0 0] _ rfl (zf (zc _ _ oe)) underlying45 rfl zO) rfl ⟨rfl,?_⟩;exact((uur _ w).alloc _).alloc _
theorem zga(m:Nat)(D:m<=64):∃b:Array Value,b.size=m/\∀w:World,(Instr.makeSlice 77 (.int .i64 0) (.int .i64 (m:Int))).run prog w=.ok (.slice (some ⟨w.heap.size,0,none⟩) 0 m) (w.alloc (.cells b 3)):=by
 obtain⟨j,k,s,A,hz2⟩:=qYu ZK;refine⟨madeCells (Value.int .i64 0).cells (m*1),by rw[size_madeCells];simp,fun w=>?_⟩;have:=run_make (P:=prog) w 77 3 j (.int .i64 0) underlying77 k s .i64 .i64 0 m oM oM jm oM;rw[this];simp only[qxs,A];rfl
theorem TB(h:RunAt own w r v q n p a md cl)(M:¬S r)(F:fr=0\/fr=1)(G:N<=64)
  (ae:∀H af,Upd (fun _=>False) w H->Rd H 1 af N (ints (List.replicate N fi))->Calls prog 87 #[ptr (if fr=1 then p.back else p.ssd),af] H fun e az=>e=.returned (.int .i64 cd)/\Upd (fun b=>S b/\b<w.heap.size\/H.heap.size<=b) H az):
  Calls prog 51 #[ptr r,xI d fr N fi kp] w (ScW S w cd 0):=by
 obtain⟨ob,s⟩:=qqe (w.heap.size);obtain⟨w1,J⟩:=qqe ((w.alloc (.cells #[.int .i64 d,.int .i64 fr,.int .i64 (N:Int),.int .i64 fi,kp] 25)).alloc (.cells #[.int .i64 0,.int .i64 0,.slice none 0 0] 45));have A:Upd (fun _=>False) w w1:=by rw[J];exact((uur _ w).alloc _).alloc _
 have E:w1.heap[ob]?=some (.cells #[.int .i64 d,.int .i64 fr,.int .i64 (N:Int),.int .i64 fi,kp] 25 (0,0)):=by rw[J,s];exact(qxk _ _ _ oe).trans (zc w _ rfl)
 have O:w1.heap[ob+1]?=some (.cells #[.int .i64 0,.int .i64 0,.slice none 0 0] 45 (0,0)):=by rw[J,s];exact zc _ _ oe
 have Q:w1.cell? ⟨ob,1,none⟩=some (.int .i64 fr):=za E 1;have a7:w1.cell? ⟨ob,2,none⟩=some (.int .i64 (N:Int)):=za E 2;have h1:=h.new A;obtain⟨ag,R,aA⟩:=zga N G;obtain⟨aB,ah,ai,aj,ak⟩:=qYu ZK;have T:=Y4 ah ai aj ak;have q1:¬(N:Int)<0:=oM;have q2:¬(N:Int)>64:=oM;have k:=Y8 s A E O M h1 G R;have aC:=qqh ae;have am:=Y2 J s;clear h h1 s A E O M G R ae J ah ai aj ak;rcases F with rfl|rfl
 all_goals
  go_enter func51,ntmps51
  go_upto_region 1 with fail
  rw[<-am.o.1,<-am.o.2];go_upto_region 4 with fail
  clear aA;obtain⟨an,U⟩:=qqe (w1.alloc (.cells ag 3));rw[<-U];have a8:Below w1.heap.size w1 an:=by rw[U];exact(qxl _ w1).alloc (qXp _) _
  have ao:Sl an 3 1 (.slice (some ⟨w1.heap.size,0,none⟩) 0 N) 0 (ints (List.replicate 0 fi)):=
   ⟨rfl,.inr ⟨w1.heap.size,0,N,ag,rfl,by rw[U];exact zc w1 _ rfl,qXz _,by have:=k.o.2.2.2.2.2.2.1;unfold maxLen;omega,by rw[k.o.2.2.2.2.2.2.2];omega,fun b u aD=>by simp[ints]at aD⟩⟩
  have K:=Y2 a8 ao;have a7:=(uuo (S:=fun _=>False) a8).jU a7 (fun h=>h);clear a8 ao U;go_wp2_with fail
  clear a7 Q;go_loopg[5,31] N (fun gk u i wr=>∃j:Nat,j+gk=N/\i=.int .i64 (j:Int)/\Sl wr 3 1 u j (ints (List.replicate j fi))/\From w1.heap.size u/\Below w1.heap.size w1 wr)
  case atStart=>exact⟨0,oM,rfl,K.o.2,fun g aE=>by cases aE;exact qXp _,K.o.1⟩
  case round=>
   obtain⟨j,aF,rfl,hsl,F,V⟩:=hrel;have D:=uuo (S:=fun _=>False) V;have W:=D.jV k.o.2.2.1;by_cases hlt:j<N
   .have aK:wr.cell? ⟨ob,3,none⟩=some (.int .i64 fi):=za W 3;have aG:(j:Int)<(N:Int):=oM;have aL:=k.o.2.2.2.2.2.2.1;have L:=Y3 hsl F V;obtain⟨aM,aN,rfl⟩:=hsl.rd.jW;clear hsl F V D W;have aH:∀u∈[Value.int .i64 fi],u.oneCell'=true:=by intro u ap;simp at ap;subst ap;rfl
    go_wp2_with (first
     |(at_builtin;refine zK rfl _ _ _ rfl aB (.int .i64 0) 8 underlying77 T.o.1 T.o.2.1 T.o.2.2.1 T.o.2.2.2 rfl de rfl L.o.1 [.int .i64 fi] oA rfl aH oh oM ?_;intro aO aP X Y Z)
     |fail)
    have aI:=Y3 X Y Z;clear X Y Z;go_roundg (gk-1)
    case measure=>omega
    case rel=>
     obtain⟨X,Y,Z⟩:=aI.o;have aa:=L.o.2.2.size;refine⟨j+1,oM,by go_num,?_,Z.ge aa L.o.2.1,zj L.o.2.2 Y (qXp _) L.o.2.1.own⟩;rw[List.replicate_succ',tR];exact X
   .obtain rfl:j=N:=oM;have aG:¬((j:Int)<(j:Int)):=oM;have h2:=k.o.2.2.2.2.2.1.new D;have aq:=za h2.g 3;have ar:=za h2.g 4;have Q:wr.cell? ⟨ob,1,none⟩=some _:=za W 1;simp at aq ar Q;have au:=qqh (aC.o wr _ (k.o.2.1.trans D) hsl.rd);have K:=Y2 D (D.jV k.o.2.2.2.1);clear h2 hsl F V D W aF;go_wp2_with fail
    refine au.o.mono ?_;rintro e av ⟨rfl,ab⟩;obtain⟨s,A,E,O,M,h1,G,R⟩:=k.o;have a6:=K.o.2;have ad:=(ab.block (ob+1) (zd a6) (fun e=>e.elim (fun e=>by have:=e.2;omega) (fun e=>by have:=zd a6;omega))).trans a6;have aw:=zy ad (n:=3) de;have ax:=Y2 ad ab;clear ab au a6 ad s A E O M h1 G R aq ar Q;go_wp2_with (first
     |(refine qZc rfl _ _ _ rfl _ _ [.int .i64 cd,.int .i64 0,.slice none 0 0].toArray rfl rfl aw zO (qYo (yA rfl)) ?_)
     |fail)
    have s:=k.o.1;have A:=k.o.2.1;have aQ:=A.size;have aR:=ax.o.1;have aJ:(av.setCells (ob+1) 0 [.int .i64 cd,.int .i64 0,.slice none 0 0]).rangeAt (ob+1) 0 [.int .i64 cd,.int .i64 0,.slice none 0 0]:=qYl _ _ _ _ (by exact aw);refine qYq (zq rfl _ _ (ob+1) 0 [.int .i64 cd,.int .i64 0,.slice none 0 0] _ rfl aJ underlying45 rfl zO) rfl ⟨rfl,?_⟩;have ay:Upd (fun b=>S b/\b<w.heap.size\/w.heap.size<=b) w wr:=(A.trans K.o.1).mono fE;have aa:=ay.size;exact(ay.trans (ax.o.2.mono (fun b _ e=>e.imp id (fun e=>qXr aa e)))).trans ((zo av (ob+1) 0 _).mono (fun b _ e=> .inr (by replace e:b=ob+1:=e;omega)))
end
section
variable{own:Nat->Nat}{w:World}{r v:Nat}{q:VoP}{n:CaN}{p:CaP}{a:CaS}{md:Int}{cl:Bool}{d fr m fi cd nn:Int}{kp:Value}
theorem Af{b:Nat}{j:Value}(k:Rd w 1 j N (ints (List.replicate N fi)))(E:1<=N)(F:fi<0\/2<fi):
  Calls prog 87 #[ptr b,j] w fun e G=>e=.returned (.int .i64 1)/\G=w:=by
 obtain⟨g,o,c,rfl,H,s⟩:=k.at oM;have J:w.cell? ⟨g,o+0,none⟩=some (.int .i64 fi):=s 0 (.int .i64 fi) (by
  obtain⟨A,rfl⟩:∃A,N=A+1:=⟨N-1,oM⟩
  rw[List.replicate_succ];rfl)
 rw[qXm]at J;have K:(0:Int)<(N:Int):=oM;have hx:fi<0\/(¬fi<0/\fi>2):=oM;clear k s H F E;rcases hx with q1|⟨q1,q2⟩
 all_goals
  go_enter func87,ntmps87
  go_wp2_with fail
  go_loopg[11] 0 (fun gk i wr=>i=.int .i64 0/\wr=w)
  case atStart=>exact⟨rfl,rfl⟩
  case round=>
   obtain⟨rfl,D⟩:=hrel;rw[D];clear D;go_wp2
   go_ret
   exact⟨rfl,rfl⟩
theorem Un(h:RunAt own w r v q n p a md false)(b:kp.oneCell'=true)(j:(fr≠0/\fr≠1)\/m<0\/64<m):Calls prog 10 #[ptr r,xI 11 fr m fi kp] w (DoW (WK own v q) w 1 0):=
 Ul 51 h de (fun e=>oM) b (fun k=>kR) (enters_of func51 kR rfl) (fun _ _=>Um j)
theorem WL(h:RunAt own w r v q n p a md false)(j:kp.oneCell'=true)(k:fr=0\/fr=1)(s:N<=64)(h1:1<=N)(hx:fi<0\/2<fi):Calls prog 10 #[ptr r,xI 11 fr N fi kp] w (DoW (WK own v q) w 1 0):=by
 refine Ul 51 h de (fun e=>oM) j (fun A=>kR) (enters_of func51 kR rfl) (fun A D=>?_);refine TB (h.new D) (fun e=>h.out e.1) k s (fun F G H E=>?_);refine(Af (b:=if fr=1 then p.back else p.ssd) E h1 hx).mono ?_;rintro e J ⟨rfl,rfl⟩;exact⟨rfl,uur _ _⟩
theorem Uo(h:RunAt own w r v q n p a md false)(E:kp.oneCell'=true)(k:fr=0\/fr=1)(F:N<=64)(hx:N=0\/0<=fi/\fi<=2)(Q:a.dP.length+64<=65536)(R:a.bP.length+64<=65536):Calls prog 10 #[ptr r,xI 11 fr N fi kp] w (DoW (WK own v q) w 0 0):=by
 refine Ul 51 h de (fun e=>oM) E (fun G=>kR) (enters_of func51 kR rfl) (fun G b=>?_);refine TB (h.new b) (fun e=>h.out e.1) k F (fun H J K L=>?_);have s:∀x∈List.replicate N fi,0<=x/\x<=2:=fun x e=>by
  obtain⟨T,rfl⟩:=List.mem_replicate.1 e;omega
 have A:=h.vo.ca.new (b.trans K);have D:Rd H 1 J (List.replicate N fi).length (ints (List.replicate N fi)):=by rw[qzd];exact L
 rcases k with rfl|rfl
 .refine (Wc A D s jq).mono ?_;rintro e M ⟨rfl,O,-,j⟩;exact⟨rfl,WK.did h b.size j⟩
 .refine (Yl A D s jq).mono ?_;rintro e M ⟨rfl,O,-,j⟩;exact⟨rfl,WK.did h b.size j⟩
end
section
variable{w:World}{d fr m fi:Int}{kp:Value}
theorem zec:Calls prog 10 #[.pointer none,xI d fr m fi kp] w fun e b=>e=.returned (.agg #[.int .i64 2,.int .i64 0,.slice none 0 0])/\Below w.heap.size w b:=by
 go_enter func10,ntmps10
 go_wp2
 exact qYq (zq rfl _ _ (w.heap.size+1) 0 [.int .i64 2,.int .i64 0,.slice none 0 0] _ rfl (zf (zc _ _ oe)) underlying45 rfl zO) rfl ⟨rfl,((qxl _ w).alloc (qXp _) _).alloc oe _⟩
theorem Ag:Calls prog 8 #[.pointer none] w fun e b=>e=.returned (.tuple #[.pointer none,.pointer none])/\b=w:=by
 go_enter func8,ntmps8
 go_wp2
 go_ret2
 exact⟨rfl,rfl⟩
theorem zbN:Calls prog 11 #[.pointer none] w fun e b=>e=.returned (.pointer none)/\b=w:=by
 go_enter func11,ntmps11
 go_wp2
 go_ret
 exact⟨rfl,rfl⟩
end
theorem zgb(n f t:Int)(h:¬(f<=n/\n<=t))(w:World):Calls prog 23 #[.int .i64 n,.int .i64 f,.int .i64 t] w fun e b=>e=.returned (.bool false)/\w=b:=by
 by_cases h1:f<=n
 .have q1:decide (f<=n)=true:=by simpa using h1
  have q2:decide (n<=t)=false:=by simp;omega
  go_enter func23,ntmps23
  go_wp2
  go_ret
  exact⟨oe,rfl⟩
 .have q1:decide (f<=n)=false:=by simpa using h1
  go_enter func23,ntmps23
  go_wp2
  go_ret
  exact⟨oe,rfl⟩
abbrev zhz:Value:=.agg #[.int .i64 0,.int .i64 0,.int .i64 0,.int .i64 0,.int .i64 0,.int .i64 0,.int .i64 0]
def zbO(w:World)(e:Ending)(w':World):Prop:=e=.returned (.tuple #[zhz,.int .i64 24])/\Below w.heap.size w w'
theorem Ah(id s sl F G H J:Int)(ar:¬(1<=s/\s<=4096))(w:World):
  Calls prog 16 #[.agg (superC id s sl F G H J).toArray] w (zbO w):=by
 obtain⟨w1,K⟩:=qqe ((w.alloc (.cells (superC id s sl F G H J).toArray 38)).alloc (.cells #[.int .i64 0,.int .i64 0,.int .i64 0,.int .i64 0,.int .i64 0,.int .i64 0,.int .i64 0] 62));have A:w1.heap[w.heap.size]?=some (.cells (superC id s sl F G H J).toArray 38 (0,0)):=by rw[K];exact(qxk _ _ _ oe).trans (zc w _ rfl)
 have L:w1.heap[w.heap.size+1]?=some (.cells #[.int .i64 0,.int .i64 0,.int .i64 0,.int .i64 0,.int .i64 0,.int .i64 0,.int .i64 0] 62 (0,0)):=by rw[K];exact zc _ _ oe
 have M:Below w.heap.size w w1:=by rw[K];exact((qxl _ w).alloc (qXp _) _).alloc oe _
 have aa:w1.cell? ⟨w.heap.size,1,none⟩=some (.int .i64 s):=za A 1;have ab:w1.cell? ⟨w.heap.size,2,none⟩=some (.int .i64 sl):=za A 2;have ad:w1.cell? ⟨w.heap.size,3,none⟩=some (.int .i64 F):=za A 3;have ae:w1.cell? ⟨w.heap.size,4,none⟩=some (.int .i64 G):=za A 4;have af:w1.cell? ⟨w.heap.size,5,none⟩=some (.int .i64 H):=za A 5;have ag:w1.cell? ⟨w.heap.size,6,none⟩=some (.int .i64 J):=za A 6;have ah:=Y2 L M;have ai:=qqh K;clear A L M K;go_enter func16,ntmps16
 go_upto_region 2 with fail
 rw[<-ai.o];refine qZd (S:=fun E=>E.cell? ⟨w.heap.size,1,none⟩=some (.int .i64 s)/\E.cell? ⟨w.heap.size,2,none⟩=some (.int .i64 sl)/\E.cell? ⟨w.heap.size,3,none⟩=some (.int .i64 F)/\E.cell? ⟨w.heap.size,4,none⟩=some (.int .i64 G)/\E.cell? ⟨w.heap.size,5,none⟩=some (.int .i64 H)/\E.cell? ⟨w.heap.size,6,none⟩=some (.int .i64 J)) kR (by(simp only[qYi]);exact⟨aa,ab,ad,ae,af,ag⟩) (fun Q=>?_);refine Wl.i [0,1,2] ?_;iterate 3 refine Wl.t Q ?_
 refine Wl.o ?_;refine Wl.r 3 (fun j b=>?_);go_simp
 refine(zgb _ _ _ ar _).mono ?_;rintro e aw ⟨rfl,rfl⟩;refine b.o _ _ (Q) (fun R=>?_);clear b j;refine Wl.i [4,5,6,7,8,9,10] ?_;iterate 7 refine Wl.t R ?_
 refine Wl.o ?_;refine Wl.r 11 (fun j b=>?_);go_simp
 refine b.o _ _ (R) (fun T=>?_);clear b j;refine Wl.i [12,13,14,15,16,17] ?_;iterate 6 refine Wl.t T ?_
 refine Wl.o ?_;refine Wl.r 18 (fun j b=>?_);go_simp
 refine b.o _ _ (T) (fun U=>?_);clear b j;refine Wl.i [19,20,21,22,23,24] ?_;iterate 6 refine Wl.t U ?_
 refine Wl.o ?_;refine Wl.r 25 (fun j b=>?_);go_simp
 refine b.o _ _ (U) (fun V=>?_);clear b j;refine Wl.i [26,27,28,29,30,31] ?_;iterate 6 refine Wl.t V ?_
 refine Wl.o ?_;refine Wl.r 32 (fun j b=>?_);go_simp
 refine b.o _ _ (V) (fun W=>?_);clear b j;refine Wl.i [33,34,35,36,37,38,39,40,41] ?_;iterate 9 refine Wl.t W ?_
 refine Wl.o ?_;refine Wl.r 42 (fun j b=>?_);go_simp
 refine b.o _ _ (W) (fun au=>?_);clear b j;refine Wl.d ?_;obtain⟨L,M⟩:=ah.o;have aj:=(uur (fun _=>False) w1).drew;have X:=aj.jV L;have ak:Below w.heap.size w w1.drew:=M.drew;generalize w1.drew=Y at*;have Z:Y.there (w.heap.size+1) 0 7:=fun ax hj=>by
  rw[za X,zg X,qXy];exact⟨by rw[qxe oz];rfl,rfl⟩
 have av:=qqh ak;clear L M X ak aj Q R T U V W au aa ab ad ae af ag ah ai;obtain⟨k,D⟩:∃k:List Value,k=[.int .i64 0,.int .i64 0,.int .i64 0,.int .i64 0,.int .i64 0,.int .i64 0,.int .i64 0]:=⟨_,rfl⟩
 have a6:k.length=7:=by rw[D];rfl
 have a7:k.toArray.size=7:=by rw[D];rfl
 have am:(prog.info? 62).map (·.size)=some k.length:=by rw[a6];exact xh
 have an:(prog.info? 62).map (·.size)=some k.toArray.size:=by rw[a7];exact xh
 have ao:k.toArray.all (·.oneCell')=true:=qYo (by intro v a8;rw[D]at a8;simp at a8;subst a8;rfl);have ap:Y.there (w.heap.size+1) 0 k.toArray.size:=by rw[a7];exact Z
 have aq:Y.there (w.heap.size+1) 0 k.length:=by rw[a6];exact Z
 replace D:=qqh D;have O:=Y5 am an ao ap aq;clear a6 am an ao ap aq Z a7;go_wp2_with (first
  |(refine qZc rfl _ _ _ rfl (w.heap.size+1) 0 k.toArray rfl (by rw[D.out];rfl) O.o.2.2.2.1 O.o.2.1 O.o.2.2.1 ?_)
  |fail)
 refine qYq (zp rfl _ _ (w.heap.size+1) 0 k _ rfl (qYl _ _ _ _ O.o.2.2.2.2) underlying62 rfl O.o.1) rfl ⟨by rw[D.out];rfl,zj av.o (zo _ (w.heap.size+1) 0 _) (qXp _) (fun ay h=>oM)⟩
theorem zbP(w:World):Calls prog 9 #[.agg #[.int .i64 0,.int .i64 0,.int .i64 0,.int .i64 0,.int .i64 0,.int .i64 0,.int .i64 0,.int .i64 0,.int .i64 0,.int .i64 0]] w fun e D=>e=.returned (.tuple #[.pointer none,.int .i64 24])/\Below w.heap.size w D:=by
 obtain⟨w1,b⟩:=qqe (w.alloc (.cells #[.int .i64 0,.int .i64 0,.int .i64 0,.int .i64 0,.int .i64 0,.int .i64 0,.int .i64 0,.int .i64 0,.int .i64 0,.int .i64 0] 42));have j:=qqu b;have k:=qqh (Ah 0 0 0 0 0 0 0 oM w1);have s:=Y2 b j;clear b j;go_enter func9,ntmps9
 go_wp2_with fail
 rw[<-s.o.1];refine k.o.mono ?_;rintro e F ⟨rfl,A⟩;have E:=qqh ((s.o.2.trans (uuo A)).alloc (.cells #[.int .i64 0,.int .i64 0,.int .i64 0,.int .i64 0,.int .i64 0,.int .i64 0,.int .i64 0] 62));clear A k;go_wp2
 go_ret2
 exact⟨rfl,E.o.below⟩
end Go.Proofs.YtbnpkobbnjihjaaGreatDoor
