/- attach.Attach of a cache without blocks. A dev -/
import Derived.Test.YtfhfbpmlnjdfoaaGreatDoorG45
import Derived.Test.YtfhfbpmlnjdfoaaGreatDoorG48
set_option maxRecDepth 100000
set_option maxHeartbeats 4000000
namespace Go.Proofs.YtfhfbpmlnjdfoaaGreatDoor
open Go Go.RowKit Go.Shelf Go.Lib
def AX(own:Nat->Nat)(w:World)(ssd back:Nat)(n:CaN)(a:CaS)(e:Ending)(w':World):Prop:=
 ∃c p own' li lc lf,e=.returned (.tuple #[ptr c,.agg #[ptr li,ptr lc,ptr lf],.slice none 0 0,.int .i64 0])/\CaAt own' w' c n p a/\p.ssd=ssd/\p.back=back/\Did own own' w w'/\
  LogI w' li ssd (1+2*n.pa+n.jo) n.lo 140/\LogC w' lc ssd (1+2*n.pa+n.jo+n.lo) n.lo 144/\LogF w' lf ssd (1+2*n.pa+n.jo+n.lo+n.lo) n.lo 148/\own' li=0/\own' lc=0/\own' lf=0
structure Emp(n:CaN)(F:List Bk)(O:List (Nat×Bk))(wh sq:Nat):Prop where
 ok:n.Ok
 fl:F.length=n.size
 su:okS (curB F O 0)=true
 ns:dsS (natsI (numsS (curB F O 0)))=n.C
 nw:nwS F O 1 n.pa 2=(true,wh,sq,[])
 js:scanTo F O (1+2*n.pa) n.jo n.jo=[]
 wh1:wh<=1
 sq1:sq+1<1099511627776
 zs:∀j,j<n.lo+n.lo+n.lo->curB F O (1+2*n.pa+n.jo+j)=zB
 o5:O.length<=50000
theorem Uy{L:List EI}(h:Lists (fun _=>none) L):L=[]:=by
 cases L with
 |nil=>rfl
 |cons e L=>have:=(h.2 e).1 qzt;cases this
theorem EG{S:Nat->Prop}{w w':World}{b:Nat}{F:List Bk}{O:List (Nat×Bk)}{n:CaN}{wh sq:Nat}{e:Ending}(h:EnOut S w b F O n.jo n.pa e w')(hE:Emp n F O wh sq):
  ∃ao cap,e=.returned (.tuple #[.int .i64 (wh:Int),.int .i64 (sq:Int),.slice ao 0 cap,.int .i64 0])/\Dv S w' b F O []/\Upd S w w':=by
 obtain⟨v,L,wh',sq',c,rfl,hsl,-,hd,hu,h⟩:=h;have hd':=hd.wide (T:=S) (fun j h=>h.1);rw[hE.nw,hE.js]at h;rcases h with⟨-,-,h⟩|⟨-,R,hp,-,r,hr,h⟩
 .cases h
 .have hR:R=[]:=List.Perm.eq_nil hp;subst hR;have hd0:r.d=[]:=by rw[hr];rfl
  have hg0:r.g=sq:=by rw[hr];rfl
  rw[hd0]at h;have hap:∀L0,Lists (apRs (apM (([]:List Ent).map Ent.toI)) (([]:List (List Nat)).map natsI)) L0->L0=[]:=fun L0 h=>Uy h;rcases h with⟨-,-,h|⟨L0,h1,h2⟩⟩|⟨rfl,rfl,rfl,h,-⟩
  .exact absurd qXc h
  .rw [hap L0 h1]at h2;exact absurd qXc h2
  .have hL:=hap L h;subst hL;obtain⟨ao,cap,rfl⟩:=hsl.rd.nil_iff;exact⟨ao,cap,by rw[hg0];rfl,hd',hu⟩
theorem Wb{w:World}{p:Nat}{cs:Array Value}{vs:List Value}{t:TypeId}(h:w.heap[p]?=some (.cells cs t (0,0)))(hl:cs.size=vs.length):(w.setCells p 0 vs).heap[p]?=some (.cells vs.toArray t (0,0)):=by
 obtain⟨cur',h2,h3,h4⟩:=zG vs 0 w p _ t (0,0) h;rw[h2];have:cur'=vs.toArray:=by
  apply qxd
  intro k;have e:vs.toArray[k]?=vs[k]?:=by simp
  rw[h4 k,e,hl];by_cases hk:k<vs.length
  .rw [if_pos ⟨by omega,by omega,by omega⟩];rfl
  .rw [if_neg (by omega),qxf (by omega),qyo (by omega)]
 rw[this]
def Ja(s8 q m:Nat):Array Value:= #[.func (.func 73) #[] #[ptr s8,ptr q,ptr (q+1),ptr m,ptr (m+1),ptr (m+1+1),ptr (m+1+1+1)],.func (.func 75) #[] #[ptr (m+1+1+1),ptr (m+1+1+1+1)],
 .func (.func 77) #[] #[ptr (m+1+1+1+1),ptr (m+1+1+1+1+1)],.func (.func 79) #[] #[ptr (m+1+1+1)]]
def Bx(own:Nat->Nat)(w:World)(m:Nat)(c:Value)(l:List Value):Prop:=
 (w.heap[m+1+1+1]?=some (.cells #[c] 62 (0,0))/\own (m+1+1+1)=0)/\(w.heap[m+1+1+1+1]?=some (.cells l.toArray 67 (0,0))/\own (m+1+1+1+1)=0)/\
  (w.heap[m+1+1+1+1+1]?=some (.cells #[.slice none 0 0] 68 (0,0))/\own (m+1+1+1+1+1)=0)
theorem Bx.did{own own':Nat->Nat}{w w':World}{m:Nat}{c:Value}{l:List Value}(h:Bx own w m c l)(d:Did own own' w w'):Bx own' w' m c l:=
 ⟨d.zero h.1.1 h.1.2,d.zero h.2.1.1 h.2.1.2,d.zero h.2.2.1 h.2.2.2⟩
def Lg3(own:Nat->Nat)(w:World)(n:CaN)(d li lc lf:Nat):Prop:=
 (LogI w li d (1+2*n.pa+n.jo) n.lo 140/\LogC w lc d (1+2*n.pa+n.jo+n.lo) n.lo 144/\LogF w lf d (1+2*n.pa+n.jo+n.lo+n.lo) n.lo 148)/\own li=0/\own lc=0/\own lf=0
theorem Lg3.did{own own':Nat->Nat}{w w':World}{n:CaN}{d li lc lf:Nat}(h:Lg3 own w n d li lc lf)(g:Did own own' w w'):Lg3 own' w' n d li lc lf:=
 ⟨⟨h.1.1.keep g.upd (fun hs=>hs.1 h.2.1),h.1.2.1.keep g.upd (fun hs=>hs.1 h.2.2.1),h.1.2.2.keep g.upd (fun hs=>hs.1 h.2.2.2)⟩,(g.old _ h.1.1.lt).trans h.2.1,(g.old _ h.1.2.1.lt).trans h.2.2.1,(g.old _ h.1.2.2.lt).trans h.2.2.2⟩
theorem Lg3.aside{own:Nat->Nat}{w w':World}{n:CaN}{d li lc lf b:Nat}(h:Lg3 own w n d li lc lf)(hu:Upd (fun j=>j=b) w w')(h1:li≠b)(h2:lc≠b)(h3:lf≠b):Lg3 own w' n d li lc lf:=
 ⟨⟨h.1.1.keep hu h1,h.1.2.1.keep hu h2,h.1.2.2.keep hu h3⟩,h.2⟩
def AY(own:Nat->Nat)(w:World)(ssd back m:Nat)(n:CaN)(F:List Bk)(O:List (Nat×Bk))(G:List Bk)(Q:List (Nat×Bk))(a:CaS)(Fx:Nat->Option Obj):Nat->World->Prop
 |0=>fun W=>∃own',Dvs own' W ssd back F O G Q []/\Did own own' w W/\Kps own' W Fx/\Bx own' W m (.pointer none) [.pointer none,.pointer none,.pointer none]
 |1=>fun W=>∃own' c p,CaAt own' W c n p a/\(p.ssd=ssd/\p.back=back)/\Did own own' w W/\Kps own' W Fx/\Bx own' W m (ptr c) [.pointer none,.pointer none,.pointer none]
 |2=>fun W=>∃own' c p li lc lf,CaAt own' W c n p a/\(p.ssd=ssd/\p.back=back)/\Did own own' w W/\Kps own' W Fx/\Bx own' W m (ptr c) [ptr li,ptr lc,ptr lf]/\Lg3 own' W n ssd li lc lf
 |3=>fun W=>∃own' c p li lc lf,CaAt own' W c n p a/\(p.ssd=ssd/\p.back=back)/\Did own own' w W/\Kps own' W Fx/\Bx own' W m (ptr c) [ptr li,ptr lc,ptr lf]/\Lg3 own' W n ssd li lc lf
 |_=>fun W=>∃own' c p li lc lf,CaAt own' W c n p (a.ckpt n).1/\(p.ssd=ssd/\p.back=back)/\Did own own' w W/\Kps own' W Fx/\Bx own' W m (ptr c) [ptr li,ptr lc,ptr lf]/\Lg3 own' W n ssd li lc lf
theorem Jb{own own':Nat->Nat}{w W:World}{ssd back g m s8 q:Nat}{F G:List Bk}{O Q:List (Nat×Bk)}{n:CaN}{wh sq:Nat}{Fx:Nat->Option Obj}{ao:Option Addr}{cap:Nat}(hE:Emp n F O wh sq)(hG:G.length=n.bl)(hm:w.heap.size<=m)
  (h0:Dvs own' W ssd back F O G Q []) (hd:Did own own' w W) (hk:Kps own' W Fx) (hb:Bx own' W m (.pointer none) [.pointer none,.pointer none,.pointer none])
  (fg:Fx g=some (.cells (Ja s8 q m) 71 (0,0))) (f8:Fx s8=some (.cells n.C.toArray 40 (0,0))) (fq:Fx q=some (.cells #[ptr ssd] 46 (0,0))) (fq1:Fx (q+1)=some (.cells #[ptr back] 46 (0,0)))
  (f10:Fx m=some (.cells #[.int .i64 (wh:Int)] 3 (0,0))) (f11:Fx (m+1)=some (.cells #[.int .i64 (sq:Int)] 3 (0,0))) (f12:Fx (m+1+1)=some (.cells #[.slice ao 0 cap] 22 (0,0)))
  (f13:Fx (m+1+1+1)=none) (f14:Fx (m+1+1+1+1)=none) (f15:Fx (m+1+1+1+1+1)=none):
  Calls Tryz.prog 61 #[.slice (some ⟨g,0,none⟩) 4 4] W (qM (fun _ _=>False) (AY own w ssd back m n F O G Q (caS0 n wh (sq+1) F O [] G Q []) Fx 4)):=by
 have hwh:=hE.wh1;refine AO (g:=g) (n:=4) (by omega)
  (fun k=>[73,75,77,79].getD k 0) (fun _=> #[])
  (fun k=>[#[ptr s8,ptr q,ptr (q+1),ptr m,ptr (m+1),ptr (m+1+1),ptr (m+1+1+1)],#[ptr (m+1+1+1),ptr (m+1+1+1+1)],#[ptr (m+1+1+1+1),ptr (m+1+1+1+1+1)],#[ptr (m+1+1+1)]].getD k #[])
  (AY own w ssd back m n F O G Q (caS0 n wh (sq+1) F O [] G Q []) Fx) (fun _ _=>False) ?_ ?_ ?_ ⟨own',h0,hd,hk,hb⟩
 .intro k hk W hW;have hK:∃own',Kps own' W Fx:=by
   rcases(show k=0\/k=1\/k=2\/k=3 by omega)with rfl|rfl|rfl|rfl
   .obtain ⟨o,-,-,h,-⟩:=hW;exact⟨o,h⟩
   .obtain ⟨o,c,p,-,-,-,h,-⟩:=hW;exact⟨o,h⟩
   .obtain ⟨o,c,p,-,-,-,-,-,-,h,-⟩:=hW;exact⟨o,h⟩
   .obtain ⟨o,c,p,-,-,-,-,-,-,h,-⟩:=hW;exact⟨o,h⟩
  obtain⟨o,h⟩:=hK;rw[za (h _ _ fg).1];rcases(show k=0\/k=1\/k=2\/k=3 by omega)with rfl|rfl|rfl|rfl<;>rfl
 .intro k hk args W;rcases(show k=0\/k=1\/k=2\/k=3 by omega)with rfl|rfl|rfl|rfl<;>rfl
 .intro k hk W hW;have np:∀(x:Option Addr) (k:IntKind) (y:Int),(#[Value.pointer x]:Array Value)[0]?≠some (.int k y):=fun x k y h=>by simp at h
  rcases(show k=0\/k=1\/k=2\/k=3 by omega)with rfl|rfl|rfl|rfl
  .obtain ⟨o,hD,hd,hk,hb⟩:=hW;have hnew:=AH hD.ssd hD.back hD.far hD.nib hD.tur hD.on hD.ot hE.ok hE.fl hG wh (sq+1) hwh hE.sq1 ao 0 cap (caS0 n wh (sq+1) F O [] G Q []) (fun _ _ _ _ _ h=>QS h ao cap);have h2:=zax (own:=o) (w:=W) (n:=n) wh sq hnew (by have:=hE.sq1;omega) (zg (hk _ _ f8).1) (za (hk _ _ fq).1 0) (za (hk _ _ fq1).1 0) (za (hk _ _ f10).1 0) (za (hk _ _ f11).1 0) (za (hk _ _ f12).1 0) hb.1.1 hb.1.2;refine h2.mono fun e W' ⟨he,c,p,o2,w2,hca,hp1,hp2,d2,hw⟩=>⟨0,he,fun _=>?_,fun h=>absurd rfl h⟩;subst hw;have b2:=hb.did d2;have hu:=zi w2 (m+1+1+1) 0 (ptr c);refine⟨o2,c,p,hca.nobody hu (qR hca.nib hca.tur b2.1.1 b2.1.2 (np _)),⟨hp1,hp2⟩,(hd.trans d2).mine hu (by omega),(hk.did d2).aside hu (fun j e=>by subst e;exact f13),⟨vj b2.1.1,b2.1.2⟩,⟨(hu.block _ (zd b2.2.1.1) (by omega)).trans b2.2.1.1,b2.2.1.2⟩,⟨(hu.block _ (zd b2.2.2.1) (by omega)).trans b2.2.2.1,b2.2.2.2⟩⟩
  .obtain ⟨o,c,p,hca,hp,hd,hk,hb⟩:=hW;have h3:=zay hca (za hb.1.1 0) hb.2.1.1;refine h3.mono fun e W' ⟨he,li,lc,lf,w2,hi,hc,hf,hz,hu2,hw⟩=>⟨0,he,fun _=>?_,fun h=>absurd rfl h⟩;subst hw;rw[hp.1]at hi hc hf;have d2:=hca.didNew hu2;have b2:=hb.did d2;have hca2:=hca.new hu2;have hu:=zp w2 (m+1+1+1+1) 0 [ptr li,ptr lc,ptr lf];have lb:=zd hb.2.1.1;have hL:Lg3 o w2 n ssd li lc lf:=⟨⟨hi,hc,hf⟩,hca.far _ hz.1,hca.far _ hz.2.1,hca.far _ hz.2.2⟩
   refine⟨o,c,p,li,lc,lf,hca2.nobody hu (qR hca2.nib hca2.tur b2.2.1.1 b2.2.1.2 (fun k y h=>by simp at h)),hp,(hd.trans d2).mine hu (by omega),(hk.did d2).aside hu (fun j e=>by subst e;exact f14),⟨⟨(hu.block _ (zd b2.1.1) (by omega)).trans b2.1.1,b2.1.2⟩,⟨Wb b2.2.1.1 rfl,b2.2.1.2⟩,⟨(hu.block _ (zd b2.2.2.1) (by omega)).trans b2.2.2.1,b2.2.2.2⟩⟩,hL.aside hu (by omega) (by omega) (by omega)⟩
  .obtain ⟨o,c,p,li,lc,lf,hca,hp,hd,hk,hb,hL⟩:=hW;have hlz:LgsZ (fun j=>o j=2\/W.heap.size<=j) W li lc lf ssd (1+2*n.pa+n.jo) n.lo F O:={
    i:=hL.1.1
    c:=hL.1.2.1
    f:=hL.1.2.2
    dv:=by have:=hca.open2;rw[hp.1]at this;exact this
    fl:=by rw[hE.fl];unfold CaN.size;omega
    nS:=fun j hj=> .inr hj
    iS:=fun h=>by have:=hL.1.1.lt;rcases h with h|h;rw[hL.2.1]at h;cases h;omega
    cS:=fun h=>by have:=hL.1.2.1.lt;rcases h with h|h;rw[hL.2.2.1]at h;cases h;omega
    fS:=fun h=>by have:=hL.1.2.2.lt;rcases h with h|h;rw[hL.2.2.2]at h;cases h;omega
    nib:=hca.nib
    nibS:=fun h=>by have:=hca.nib.lt;rcases h with h|h;rw[hca.on]at h;cases h;omega
    zs:=fun j hj=>hE.zs j hj}
   have h4:=zaz hlz hb.2.1.1 hb.2.2.1 (fun h=>by have:=zd hb.2.2.1;rcases h with h|h;rw[hb.2.2.2]at h;cases h;omega);refine h4.mono fun e W' ⟨he,w2,hdv,hu2,hw⟩=>⟨0,he,fun _=>?_,fun h=>absurd rfl h⟩;subst hw;have hca2:=hca.turn2 hu2 (by rw[hp.1];exact hdv) rfl;have d2:=hca.did2 hu2;have b2:=hb.did d2;have L2:=hL.did d2;have hu:=zi w2 (m+1+1+1+1+1) 0 (.slice none 0 0);have hbn:=qR hca2.nib hca2.tur b2.2.2.1 b2.2.2.2 (fun k y h=>by simp at h);have ln:∀{l:Nat} {v:Array Value} {t:TypeId},w2.heap[l]?=some (.cells v t (0,0))->(∃x,v[0]?=some (.pointer x))->l≠m+1+1+1+1+1:=by
    rintro l v t h ⟨x,hx⟩ e;rw[e,b2.2.2.1]at h;cases h;simp at hx
   refine⟨_,c,p,li,lc,lf,hca2.nobody hu hbn,hp,(hd.trans d2).mine hu (by omega),(hk.did d2).aside hu (fun j e=>by subst e;exact f15),⟨⟨(hu.block _ (zd b2.1.1) (by omega)).trans b2.1.1,b2.1.2⟩,⟨(hu.block _ (zd b2.2.1.1) (by omega)).trans b2.2.1.1,b2.2.1.2⟩,⟨vj b2.2.2.1,b2.2.2.2⟩⟩,L2.aside hu (ln L2.1.1.str ⟨_,rfl⟩) (ln L2.1.2.1.str ⟨_,rfl⟩) (ln L2.1.2.2.str ⟨_,rfl⟩)⟩
  .obtain ⟨o,c,p,li,lc,lf,hca,hp,hd,hk,hb,hL⟩:=hW;have hck:=Zf hca (fun k v h=>by cases h) (by exact hE.o5);have e0:(CaS.ckpt n (caS0 n wh (sq+1) F O [] G Q [])).2=0:=by rw[Yn rfl rfl rfl]
   rw[e0]at hck;have h5:=zaA hck (za hb.1.1 0);refine h5.mono fun e W' ⟨he,o2,hca2,d2⟩=>⟨0,he,fun _=>?_,fun h=>absurd rfl h⟩;exact⟨o2,c,p,li,lc,lf,hca2,hp,hd.trans d2,hk.did d2,hb.did d2,hL.did d2⟩
theorem Uz(w:World)(a b c d e f g:Obj)(w':World)(hw:w'=((((((w.alloc a).alloc b).alloc c).alloc d).alloc e).alloc f).alloc g):
  w'.heap[w.heap.size]?=some a/\w'.heap[w.heap.size+1]?=some b/\w'.heap[w.heap.size+1+1]?=some c/\w'.heap[w.heap.size+1+1+1]?=some d/\w'.heap[w.heap.size+1+1+1+1]?=some e/\
   w'.heap[w.heap.size+1+1+1+1+1]?=some f/\w'.heap[w.heap.size+1+1+1+1+1+1]?=some g/\Upd (fun _=>False) w w':=by
 subst hw;have al:∀{w:World} {o:Obj} {i:Nat} {x:Obj},w.heap[i]?=some x->(w.alloc o).heap[i]?=some x:=fun{w o i x} h=>(qxk _ _ _ (zd h)).trans h;exact⟨al (al (al (al (al (al (zc _ _ rfl)))))),al (al (al (al (al (zc _ _ (by simp)))))),al (al (al (al (zc _ _ (by simp))))),al (al (al (zc _ _ (by simp)))),al (al (zc _ _ (by simp))),al (zc _ _ (by simp)),zc _ _ (by simp),(((((((uur _ w).alloc _).alloc _).alloc _).alloc _).alloc _).alloc _).alloc _⟩
theorem qS{P:Program}{fn:Func}{p0 p r s:Tmp}{ty:TypeId}(h:fn.results= #[.tmp p0,.cell p ty,.tmp r,.tmp s])(tmps:Array Value)(w:World)(b o:Nat)(cs:List Value)(d:TypeDesc)
  (hp:tmps.getD p undef=.pointer (some ⟨b,o,none⟩)) (hc:w.rangeAt b o cs) (hu:P.underlying ty=some d) (hd:d.isRow=true) (hi:(P.info? ty).map (·.size)=some cs.length):
  (results fn tmps).run P w=.ok (.tuple #[tmps.getD p0 undef,.agg cs.toArray,tmps.getD r undef,tmps.getD s undef]) w:=by
 have hp':tmps[p]?.getD undef=.pointer (some ⟨b,o,none⟩):=by simpa using hp
 simp[results,h,hp',asAddr,run_loadVar_mid w b o ty cs d hc hu hd hi,Result.andThen]
theorem tp{own:Nat->Nat}{w:World}{ssd back:Nat}{F G:List Bk}{O Q:List (Nat×Bk)}{n:CaN}{wh sq:Nat}(hD:Dvs own w ssd back F O G Q [])(hE:Emp n F O wh sq)(hG:G.length=n.bl):
  Calls Tryz.prog 23 #[ptr ssd,ptr back] w (AX own w ssd back n ((caS0 n wh (sq+1) F O [] G Q []).ckpt n).1):=by
 obtain⟨U,hU⟩:=qqe (n.C);obtain⟨w1,hw1⟩:=qqe (((w.alloc (.cells #[ptr ssd] 46)).alloc (.cells #[ptr back] 46)).alloc (.cells #[.pointer none,.pointer none,.pointer none] 67));have hu1:Upd (fun _=>False) w w1:=by rw[hw1];exact(((uur _ w).alloc _).alloc _).alloc _
 have z1:w1.heap.size=w.heap.size+3:=by rw[hw1];simp
 obtain⟨ga1,gb1,gc1,-,-⟩:=yG w (.cells #[ptr ssd] 46) (.cells #[ptr back] 46) (.cells #[.pointer none,.pointer none,.pointer none] 67);rw[<-hw1]at ga1 gb1 gc1;have D1:=hD.new hu1;have hsup:=QR D1.open2 (fun j hj=> .inr hj) D1.back (fun j h3 h2=>by rcases h2 with h2|h2;rw[h3]at h2;exact absurd h2 (by decide);rw[D1.far j h2]at h3;exact absurd h3 (by decide)) D1.nib D1.on2 (by rw[hE.fl];have:=hE.ok.s1;unfold CaN.size;omega) n hE.ok (fun _=>hE.ns);have hR:supR n F G (curB F O 0)=(n.C,0):=by unfold supR;rw[if_pos hE.su,if_pos ⟨hE.fl,hG⟩]
 rw[hR]at hsup;have HS:Hid (Calls Tryz.prog 21 #[ptr ssd,ptr back] w1 (fun e w'=>e=.returned (.tuple #[.agg n.C.toArray,.int .i64 0])/\Dv (fun j=>own j=2\/w1.heap.size<=j) w' ssd F O []/\Upd (fun j=>own j=2\/w1.heap.size<=j) w1 w')):=hsup;have H:=Y4 hD hE hG hU;have H1:=Y7 hw1 hu1 z1 ga1 gb1 gc1 D1;have ca:=za ga1 0;have cb:=za gb1 0;have hUl:U.length=7:=by rw[hU];rfl
 have hU1:∀v∈U,v.oneCell'=true:=by rw[hU];exact n.C_one
 have hsU:(Tryz.prog.info? 40).map (·.size)=some U.length:=by rw[hU];exact yY
 rw[<-hU]at HS;clear hD hE hG hU hw1 hu1 z1 ga1 gb1 gc1 D1 hsup hR;go_enter Tryz.func23,Tryz.ntmps23
 go_wp2_with fail
 rw[<-H1.o.1];refine HS.o.mono ?_;rintro e w2 ⟨rfl,hd2,hu2⟩;have D2:=H1.o.2.2.2.2.2.2.turn2 hu2 hd2;have did2:=H1.o.2.2.2.2.2.2.did2 hu2;have hu2s:Hid (w1.heap.size<=w2.heap.size):=hu2.size;obtain⟨own2,hown2⟩:=qqe (grow own 2 w1.heap.size w2.heap.size);rw[<-hown2]at D2 did2;obtain⟨w3,hw3⟩:=qqe (w2.alloc (.cells U.toArray 40));have hu3:Upd (fun _=>False) w2 w3:=by rw[hw3];exact(uur _ w2).alloc _
 have D3:=D2.new hu3;have did3:=did2.trans (D2.didNew hu3);have o0:∀i,w.heap.size<=i->own i=0:=H.o.1.far;have ga3:=did3.zero H1.o.2.2.2.1 (o0 _ (qXv _));have gb3:=did3.zero H1.o.2.2.2.2.1 (o0 _ (by omega));have gc3:=did3.zero H1.o.2.2.2.2.2.1 (o0 _ (by omega));have g83:w3.heap[w2.heap.size]?=some (.cells U.toArray 40 (0,0)):=by rw[hw3];exact zc w2 _ rfl
 have o83:own2 w2.heap.size=0:=D2.far _ (qXv _);have r83:=zg g83;have ca3:=za ga3.1 0;have hEn:Hid (Calls Tryz.prog 22 #[.agg U.toArray,ptr ssd] w3 (EnOut (fun j=>own2 j=2\/w3.heap.size<=j) w3 ssd F O n.jo n.pa)):=by
  show Calls _ _ _ _ _;rw[H.o.2.2.2];obtain⟨b1,b2,s1,s2,j1,j2,l1,l2,a1,a2,p1,p2,z⟩:=H.o.2.1.ok;exact YS D3.open2 (fun j hj=> .inr hj) D3.nib D3.on2 n.id n.bl n.sl n.jo n.pa n.lo n.ba b1 b2 s1 s2 j1 j2 l1 l2 a1 a2 p1 p2 z H.o.2.1.fl
 have H3:=Y8 hw3 D3 did3 ga3 gb3 gc3 g83 o83;rw[hw3]at r83 ca3;clear hd2 hu2 D2 did2 hown2 hu3 D3 did3 ga3 gb3 gc3 g83 o83 hw3 o0 HS ca cb;go_wp2_with (first
  |(refine zk rfl _ _ _ rfl _ _ U rfl rfl (by rw[hUl];rfl) hsU hU1 ?_)
  |(refine qZg rfl _ _ rfl _ _ rfl _ _ r83 Tryz.underlying40 rfl hsU ?_)
  |fail)
 rw[<-H3.o.1];refine hEn.out.mono ?_;intro e w4 he;obtain⟨ao,cap,rfl,hd4,hu4⟩:=EG he H.o.2.1;have D4:=H3.o.2.1.turn2 hu4 hd4;have did4:=H3.o.2.2.1.trans (H3.o.2.1.did2 hu4);obtain⟨own4,hown4⟩:=qqe (grow own2 2 w3.heap.size w4.heap.size);rw[<-hown4]at D4 did4;have did34:Did own2 own4 w3 w4:=by rw[hown4];exact H3.o.2.1.did2 hu4
 have HD4:=Y3 D4 did4 did34;clear he hd4 hu4 D4 did4 did34 hown4 r83 ca3;have hmf:=qqf;go_wp2_with fail
 refine(QV ao cap _ _).mono ?_;rintro e wx ⟨rfl,hwx⟩;rw[hwx];clear hwx;go_wp2_with fail
 obtain⟨m,hm⟩:=qqe (w4.heap.size);obtain⟨q,hq⟩:=qqe (w.heap.size);obtain⟨s8,hs8⟩:=qqe (w2.heap.size);rw[<-hm,<-hq,<-hs8];obtain⟨w5,hw5⟩:∃w5,w5=((((((w4.alloc (.cells #[.int .i64 (wh:Int)] 3)).alloc (.cells #[.int .i64 (sq:Int)] 3)).alloc (.cells #[.slice ao 0 cap] 22)).alloc (.cells #[.pointer none] 62)).alloc
  (.cells #[.pointer none,.pointer none,.pointer none] 67)).alloc (.cells #[.slice none 0 0] 68)).alloc (.cells (Ja s8 q m) 71):=⟨_,rfl⟩
 change Calls _ _ _ (((((((w4.alloc (.cells #[.int .i64 (wh:Int)] 3)).alloc (.cells #[.int .i64 (sq:Int)] 3)).alloc (.cells #[.slice ao 0 cap] 22)).alloc (.cells #[.pointer none] 62)).alloc
  (.cells #[.pointer none,.pointer none,.pointer none] 67)).alloc (.cells #[.slice none 0 0] 68)).alloc (.cells (Ja s8 q m) 71)) _
 rw[<-hw5];have HR:Hid (Calls Tryz.prog 61 #[.slice (some ⟨m+1+1+1+1+1+1,0,none⟩) 4 4] w5 (qM (fun _ _=>False) (fun W=>∃own' c p li lc lf,CaAt own' W c n p ((caS0 n wh (sq+1) F O [] G Q []).ckpt n).1/\(p.ssd=ssd/\p.back=back)/\Did own own' w W/\(W.heap[q+1+1]?=some (.cells #[.pointer none,.pointer none,.pointer none] 67 (0,0))/\own' (q+1+1)=0)/\Bx own' W m (ptr c) [ptr li,ptr lc,ptr lf]/\Lg3 own' W n ssd li lc lf))):=by
  show Calls _ _ _ _ _;obtain⟨-,hE,hG,hU⟩:=H.o;obtain⟨-,hu1,z1,-,-,-,D1⟩:=H1.o;obtain⟨-,D3,did3,ga3,gb3,gc3,g83,o83⟩:=H3.o;obtain⟨D4,did4,did34⟩:=HD4.o;obtain⟨e0,e1,e2,e3,e4,e5,e6,hu5⟩:=Uz w4 _ _ _ _ _ _ _ w5 hw5;rw[<-hm]at e0 e1 e2 e3 e4 e5 e6;rw[<-hq]at ga3 gb3 gc3 z1;rw[<-hs8,hU]at g83;rw[<-hs8]at o83;have l8:=zd g83;have lc:=zd gc3.1;have hz34:=did34.upd.size;have D5:=D4.new hu5;have dw:Did own own4 w w5:=((H.o.1.didNew hu1).trans did4).trans (D4.didNew hu5);have d45:=D4.didNew hu5;have ka:=(did34.zero ga3.1 ga3.2)
  have kb:=(did34.zero gb3.1 gb3.2)
  have kc:=(did34.zero gc3.1 gc3.2)
  have k8:=(did34.zero g83 o83)
  have ka:=d45.zero ka.1 ka.2;have kb:=d45.zero kb.1 kb.2;have kc:=d45.zero kc.1 kc.2;have k8:=d45.zero k8.1 k8.2;have of:∀i,m<=i->own4 i=0:=fun i hi=>D4.far i (by omega);have hs18:w1.heap.size<=s8:=by rw[hs8];exact hu2s.out
  obtain⟨Fx,hFx⟩:∃Fx:Nat->Option Obj,Fx=fun b=>if b=m+1+1+1+1+1+1 then some (.cells (Ja s8 q m) 71)else if b=s8 then some (.cells n.C.toArray 40)else if b=q then some (.cells #[ptr ssd] 46)else if b=q+1 then some (.cells #[ptr back] 46)
   else if b=q+1+1 then some (.cells #[.pointer none,.pointer none,.pointer none] 67)else if b=m then some (.cells #[.int .i64 (wh:Int)] 3)else if b=m+1 then some (.cells #[.int .i64 (sq:Int)] 3)else if b=m+1+1 then some (.cells #[.slice ao 0 cap] 22)else none:=⟨_,rfl⟩
  have hK:Kps own4 w5 Fx:=by
   intro b o hb;rw[hFx]at hb;simp only[]at hb;split at hb
   .rename_i h;subst h;cases hb;exact⟨e6,of _ (by omega)⟩
   split at hb
   .rename_i h;subst h;cases hb;exact k8
   split at hb
   .rename_i h;subst h;cases hb;exact ka
   split at hb
   .rename_i h;subst h;cases hb;exact kb
   split at hb
   .rename_i h;subst h;cases hb;exact kc
   split at hb
   .rename_i h;subst h;cases hb;exact⟨e0,of _ (by omega)⟩
   split at hb
   .rename_i h;subst h;cases hb;exact⟨e1,of _ (by omega)⟩
   split at hb
   .rename_i h;subst h;cases hb;exact⟨e2,of _ (by omega)⟩
   .cases hb
  have hr:=Jb (own:=own) (own':=own4) (w:=w) (W:=w5) (g:=m+1+1+1+1+1+1) (m:=m) (s8:=s8) (q:=q) (Fx:=Fx) (ao:=ao) (cap:=cap) hE hG (by omega) D5 dw hK ⟨⟨e3,of _ (by omega)⟩,⟨e4,of _ (by omega)⟩,⟨e5,of _ (by omega)⟩⟩
   (by rw[hFx];simp) (by rw[hFx];simp only[];rw[if_neg (by omega),if_pos trivial]) (by rw[hFx];simp only[];rw[if_neg (by omega),if_neg (by omega),if_pos trivial]) (by rw[hFx];simp only[];rw[if_neg (by omega),if_neg (by omega),if_neg (by omega),if_pos trivial])
   (by rw[hFx];simp only[];rw[if_neg (by omega),if_neg (by omega),if_neg (by omega),if_neg (by omega),if_neg (by omega),if_pos trivial]) (by rw[hFx];simp only[];rw[if_neg (by omega),if_neg (by omega),if_neg (by omega),if_neg (by omega),if_neg (by omega),if_neg (by omega),if_pos trivial])
   (by rw[hFx];simp only[];rw[if_neg (by omega),if_neg (by omega),if_neg (by omega),if_neg (by omega),if_neg (by omega),if_neg (by omega),if_neg (by omega),if_pos trivial])
   (by rw[hFx];simp only[];rw[if_neg (by omega),if_neg (by omega),if_neg (by omega),if_neg (by omega),if_neg (by omega),if_neg (by omega),if_neg (by omega),if_neg (by omega)])
   (by rw[hFx];simp only[];rw[if_neg (by omega),if_neg (by omega),if_neg (by omega),if_neg (by omega),if_neg (by omega),if_neg (by omega),if_neg (by omega),if_neg (by omega)])
   (by rw[hFx];simp only[];rw[if_neg (by omega),if_neg (by omega),if_neg (by omega),if_neg (by omega),if_neg (by omega),if_neg (by omega),if_neg (by omega),if_neg (by omega)])
  refine hr.mono fun e W ⟨c,he,h1,h2⟩=>⟨c,he,fun hc=>?_,h2⟩;obtain⟨o6,c6,p6,li,l2,l3,hca,hp,hd,hk,hb,hL⟩:=h1 hc;exact⟨o6,c6,p6,li,l2,l3,hca,hp,hd,hk _ _ (by rw[hFx];simp only[];rw[if_neg (by omega),if_neg (by omega),if_neg (by omega),if_neg (by omega),if_pos trivial]),hb,hL⟩
 have HM:Hid (q+1+1<m):=by
  have h1:=H1.o.2.2.1;have h2:=zd (H3.o.2.2.2.2.2.1.1);have h3:=HD4.o.2.2.upd.size;show _<_;omega
 clear hw5 hm hs8 H3 HD4 hEn;refine HR.o.mono ?_;rintro e w6 ⟨c0,rfl,h1,h2⟩;by_cases hc0:c0=0
 rotate_left
 .exact (h2 hc0).elim
 subst hc0;obtain⟨o6,c6,p6,li,l2,l3,hca,hp,hd,hk,hb,hL⟩:=h1 rfl;have H6:=Y6 hca hp hd hk hb hL;have c13:=za hb.1.1 0;have r14:=zg hb.2.1.1;have c15:=za hb.2.2.1 0;have hqq:=hq;have HQw:Hid (w.heap.size<=q+1+1):=by show _<=_;omega
 clear h1 h2 hca hp hd hk hb hL HR;go_wp2_with fail
 rw[<-hqq];clear hq hqq;have tA:=zD (n:=3) H6.o.2.2.2.1.1 (by simp);refine qZj (S:=fun W=>W.cell? ⟨m+1+1+1,0,none⟩=some (ptr c6)/\W.rangeAt (m+1+1+1+1) 0 [ptr li,ptr l2,ptr l3]/\W.cell? ⟨m+1+1+1+1+1,0,none⟩=some (.slice none 0 0)) (by kernel_rfl) (⟨by rw[qYo];exact c13,by rw[qYq];exact r14,by rw[qYo];exact c15⟩) (fun hHeld=>?_);refine Wl.i [0,2] ?_;iterate 2 refine Wl.t hHeld ?_
 refine Wl.o ?_;refine Wl.l 1 (fun w h=>h.2.1) Tryz.underlying67 xD hHeld ?_;refine Wl.r 3 (fun K hK=>?_);go_simp
 refine hK.o _ _ (hHeld) (fun hHeld2=>?_);clear hK K;have hud:Upd (fun _=>False) w6 w6.drew:=(uur _ w6).drew;have tA7:w6.drew.there (q+1+1) 0 3:=zD (n:=3) (hud.blockv H6.o.2.2.2.1.1) (by simp);have hur:=zp w6.drew (q+1+1) 0 [ptr li,ptr l2,ptr l3];have hHeld3:(w6.drew.setCells (q+1+1) 0 [ptr li,ptr l2,ptr l3]).cell? ⟨m+1+1+1,0,none⟩=some (ptr c6)/\(w6.drew.setCells (q+1+1) 0 [ptr li,ptr l2,ptr l3]).rangeAt (m+1+1+1+1) 0 [ptr li,ptr l2,ptr l3]/\(w6.drew.setCells (q+1+1) 0 [ptr li,ptr l2,ptr l3]).cell? ⟨m+1+1+1+1+1,0,none⟩=some (.slice none 0 0):=
  ⟨hur.cellv hHeld2.1 (by have:=HM.o;omega),hur.range hHeld2.2.1 (by have:=HM.o;omega),hur.cellv hHeld2.2.2 (by have:=HM.o;omega)⟩
 refine Wl.r 4 (fun K hK=>?_);rw[if_pos (by rfl)];refine qZk _ _ _ rfl _ _ [ptr li,ptr l2,ptr l3].toArray rfl rfl tA7 xD (by simp[Value.oneCell']) ?_;simp only[Act.put,qXi];refine hK.o _ _ (hHeld3) (fun _=>?_);clear hK K hHeld hHeld2;refine Wl.r 5 (fun K hK=>?_);go_simp
 refine hK.o _ _ (hHeld3) (fun _=>?_);clear hK K;refine Wl.r 6 (fun K hK=>?_);go_simp
 refine hK.o _ _ (hHeld3) (fun _=>?_);clear hK K;refine Wl.d ?_;have HE:=Y2 hud hur;clear hHeld3 hud hur c13 r14 c15 tA;go_wp2
 refine qYw (qS rfl _ _ (q+1+1) 0 [ptr li,ptr l2,ptr l3] _ rfl (qYr _ _ _ _ tA7) Tryz.underlying67 rfl xD) rfl ?_;obtain⟨hca,hp,hd,hk,hb,hL⟩:=H6.o;obtain⟨hud,hur⟩:=HE.o;have d7:=hca.didNew hud;have hca7:=hca.new hud;have k7:=d7.zero hk.1 hk.2;have L7:=hL.did d7;have hbn:=qR hca7.nib hca7.tur k7.1 k7.2 (fun k y h=>by simp at h);have ln:∀{l:Nat} {v:Array Value} {t:TypeId},w6.drew.heap[l]?=some (.cells v t (0,0))->(∃x,v[0]?=some (.pointer (some x)))->l≠q+1+1:=by
  rintro l v t h ⟨x,hx⟩ e;rw[e,k7.1]at h;cases h;simp at hx
 have hqw:w.heap.size<=q+1+1:=HQw.out;exact⟨c6,p6,o6,li,l2,l3,rfl,hca7.nobody hur hbn,hp.1,hp.2,(hd.trans d7).mine hur hqw,L7.1.1.keep hur (ln L7.1.1.str ⟨_,rfl⟩),L7.1.2.1.keep hur (ln L7.1.2.1.str ⟨_,rfl⟩),L7.1.2.2.keep hur (ln L7.1.2.2.str ⟨_,rfl⟩),L7.2.1,L7.2.2.1,L7.2.2.2⟩
end Go.Proofs.YtfhfbpmlnjdfoaaGreatDoor
namespace Go.Proofs.YtfhfbpmlnjdfoaaGreatDoor
open Go Go.RowKit
theorem Re{l:List Bk}{s:Nat}{x:Bk}(h:l[s]?=some x):l.getD s zB=x:=by rw[qyh,h];rfl
theorem YT(A:List Bk):∀k s,(flushF A (zW k))[s]?=if 1<=s/\s<=k/\s<A.length then some zB else A[s]?
 |0,s=>by rw[if_neg (by omega)];rfl
 |k+1,s=>by
  rw[WV,xE,qyt,YT A k s,zH];by_cases h:k+1=s
  .subst h;rw[if_pos rfl];by_cases hl:k+1<A.length
   .rw [if_pos hl,if_pos (by omega)]
   .rw [if_neg hl,if_neg (by omega),qyo (by omega)]
  .rw [if_neg h];by_cases h1:1<=s/\s<=k/\s<A.length
   .rw [if_pos h1,if_pos (by omega)]
   .rw [if_neg h1,if_neg (by omega)]
def pb0':Bk:=(pagesB 0 []).getD 0 zB
theorem Zw(i:Nat)(h:1<=i):(pagesB 0 []).getD i zB=zB:=by
 rw[qyh,qyo (by rw[pagesB,xg];exact h)];rfl
theorem Zx{n:CaN}{F:List Bk}{O:List (Nat×Bk)}(hok:n.Ok)(hF:F.length=n.size)(s:Nat)(hs:s<n.size):
  curB (fmtF n F O) [] s=if s=0 then n.sec else if s=1 then pb0' else if s<n.s0 then zB else curB F O s:=by
 have hz:=n.s0_size;have hp1:1<=n.pa:=by have:=hok.p1;omega
 have hs0:1+2*n.pa<=n.s0:=by unfold CaN.s0;omega
 have h1:(fmt1 F O)=(flushF F O).set 0 zB:=xE _ _ _;have hl1:=un F O;have e:(fmtF n F O)[s]?=if 0=s then(if s<n.size then some n.sec else none)else if 1<=s/\s<1+n.pa/\s<n.size then some ((pagesB 0 []).getD (s-1) zB)else if 1<=s/\s<=n.s0-1/\s<n.size then some zB else(fmt1 F O)[s]?:=by
  show(flushF (YO n F O) [(0,n.sec)])[s]?=_;rw[show flushF (YO n F O) [(0,n.sec)]=(YO n F O).set 0 n.sec from rfl,qyt,qP,hF];unfold YO;rw[tN,uN,zH,YT,hl1,hF];by_cases h0:0=s
  .subst h0;rfl
  .rw [if_neg h0,if_neg h0]
 show(flushF (fmtF n F O) []).getD s zB=_;rw[show flushF (fmtF n F O) []=fmtF n F O from rfl];refine Re ?_;rw[e];by_cases h0:s=0
 .subst h0;rw[if_pos rfl,if_pos hs,if_pos rfl]
 rw[if_neg (fun e=>h0 e.symm),if_neg h0];by_cases h11:s=1
 .subst h11;rw[if_pos (by omega),if_pos rfl];rfl
 rw[if_neg h11];by_cases hsp:1<=s/\s<1+n.pa/\s<n.size
 .rw [if_pos hsp,Zw _ (by omega),if_pos (by omega)]
 rw[if_neg hsp];by_cases hss:s<n.s0
 .rw [if_pos hss,if_pos (by omega)]
 .rw [if_neg hss,if_neg (by omega),h1,qyt,if_neg (fun e=>h0 e.symm)];have hl:s<(flushF F O).length:=by rw[zH,hF];exact hs
  rw[qyn hl]
  congr 1
  exact(Re (qyn hl)).symm
theorem Wc{xs:List Int}(hx:xs.length=7)(h:mayS xs=true):okS (sectS xs)=true/\natsI (numsS (sectS xs))=xs:=by
 obtain⟨h0,hf⟩:=sk hx h;obtain⟨s1,s2⟩:=uM (k:=1) (by decide) (sz:=szS) (by rw[hx];rfl) h0 hf (mayS (natsI (numsS (sectS xs))));have h3:natsI (numsS (sectS xs))=xs:=s2;refine⟨?_,h3⟩;unfold okS;rw[show okGet (sectS xs) 1 szS (mayS (natsI (numsS (sectS xs))))=mayS (natsI (numsS (sectS xs)))from s1,h3];exact h
theorem Rf:okR zB=false:=by kernel_rfl
theorem YU{l:List Bk}(h:l.getD 0 zB=zB):readOk l=false:=by unfold readOk;rw[h,qG];rfl
theorem sw{F:List Bk}{O:List (Nat×Bk)}{base n:Nat}:∀{k:Nat},(∀i,i<k->curB F O (base+i)=zB)->scanTo F O base n k=[]
 |0,_=>rfl
 |k+1,h=>by
  rw[scanTo,sw (fun i hi=>h i (by omega)),h k (by omega)];unfold scL YJ;rw[Rf];rfl
theorem WZ{n:CaN}{F:List Bk}{O:List (Nat×Bk)}(hok:n.Ok)(hm:mayS n.I=true)(hF:F.length=n.size):Emp n (fmtF n F O) [] 0 0:=by
 have hz:=n.s0_size;have hp1:1<=n.pa:=by have:=hok.p1;omega
 have hsl:=hok.s1;have at0:=Zx (O:=O) hok hF 0 (by omega);rw[if_pos rfl]at at0;have hsb:=Wc (xs:=n.I) rfl hm;have zat:∀s,2<=s->s<n.s0->curB (fmtF n F O) [] s=zB:=fun s h1 h2=>by rw[Zx hok hF s (by omega),if_neg (by omega),if_neg (by omega),if_pos h2]
 have hs0:n.s0=1+2*n.pa+n.jo+n.lo+n.lo+n.lo:=rfl;have r0:=vC (seq:=0) (E:=[]) (by decide) (fun x hx=>by cases hx) (by decide) (l:=secsOf (fmtF n F O) [] 1 n.pa) (by rw[yC];exact hp1) (fun i hi=>by
  rw[yC]at hi;rw[tK _ _ _ _ _ hi];by_cases h0:i=0
  .subst h0;rw[Zx hok hF 1 (by omega),if_neg (by omega),if_pos rfl];rfl
  .rw [zat _ (by omega) (by omega),Zw _ (by omega)])
 have r1:readOk (secsOf (fmtF n F O) [] (1+1*n.pa) n.pa)=false:=YU (by rw[tK _ _ _ _ _ (by omega),zat _ (by omega) (by omega)]);refine⟨hok,(YP n F O).trans hF,?_,?_,?_,sw (fun i hi=>zat _ (by omega) (by omega)),by omega,by decide,fun j hj=>zat _ (by omega) (by omega),qYf _⟩
 .rw [at0];exact hsb.1
 .rw [at0,show natsI (numsS n.sec)=n.I from hsb.2];rfl
 .have e0:nwS (fmtF n F O) [] 1 n.pa 1=(true,0,0,[]):=by
   rw[nwS];have e:(1+0*n.pa)=1:=by omega
   rw[e,r0.1,r0.2.1,r0.2.2];rfl
  rw[nwS,r1,e0];rfl
def attS(n:CaN):CaS:=((caS0 n 0 (0+1) (fmtF n (List.replicate n.size zB) []) [] [] (List.replicate n.bl zB) [] []).ckpt n).1
theorem sx(n:CaN)(a:CaS)(hps:a.ps=List.replicate n.bl (-1,false)):a.ents n=[]:=by
 rw[List.eq_nil_iff_forall_not_mem];intro x hx;obtain⟨k,-,hn,-⟩:=(CaS.ents_mem (by rw[hps];exact qzi)).1 hx;rw[hps]at hn;refine hn ?_;rw[plc,qyh,qys];split<;>rfl
theorem zY(n:CaN):attS n={caS0 n 0 1 (fmtF n (List.replicate n.size zB) []) [] [] (List.replicate n.bl zB) [] []with dF:=flushF (fmtF n (List.replicate n.size zB) []) (ckO (1+n.pa) n.pa (pagesB 1 [])),which:=1,st:=freeTo (List.replicate n.sl 0) (pos (List.replicate n.sl 0) 3)}:=by
 unfold attS;rw[CaS.NoP.ckpt_eq ⟨rfl,rfl⟩];have he:=sx n (caS0 n 0 (0+1) (fmtF n (List.replicate n.size zB) []) [] [] (List.replicate n.bl zB) [] []) rfl;rw[he];simp only[caS0,Nat.sub_zero,Nat.one_mul,qYe];rfl
theorem Rg(n:CaN):(attS n).NoP:=by rw[zY];exact⟨rfl,rfl⟩
theorem Jc(n:CaN):(attS n).Gd n 3:=by
 rw[zY];refine⟨TW n,⟨fun k v h=>(by cases h),fun q h=>(by cases h),?_,?_,?_,?_,?_,?_⟩,qYf _,qYf _⟩
 .show (2:Nat)<=3;decide
 .show (0:Nat)<=3;decide
 .show (0:Nat)<=3;decide
 .show (0:Nat)<=3;decide
 .show (0:Nat)<=3;decide
 .show (0:Nat)<=3;decide
theorem Jd(n:CaN)(hok:n.Ok):∃Z:Nat->Bk,(attS n).Hi n Z/\Z 0=n.sec/\∀s,n.jb+n.jo<=s->s<n.slot0->Z s=zB:=by
 have hps:(attS n).ps=List.replicate n.bl (-1,false):=by rw[zY];rfl
 have hen:=sx n (attS n) hps;have hF0:(List.replicate n.size zB).length=n.size:=qzi;have hz:=n.s0_size;have hs0:n.s0=1+2*n.pa+n.jo+n.lo+n.lo+n.lo:=rfl;have hsl0:=n.slot0_eq;have hp1:1<=n.pa:=by have:=hok.p1;omega
 have hA:=Zx (O:=[]) hok hF0;have hlF:(fmtF n (List.replicate n.size zB) []).length=n.size:=(YP n _ _).trans hF0;have hF:(attS n).dF=flushF (fmtF n (List.replicate n.size zB) []) (ckO (1+n.pa) n.pa (pagesB 1 [])):=by rw[zY]
 have hget:∀s,s<n.size->(s<1+n.pa\/1+n.pa+n.pa<=s)->(attS n).dF.getD s zB=if s=0 then n.sec else if s=1 then pb0' else if s<n.s0 then zB else curB (List.replicate n.size zB) [] s:=fun s h1 h2=>by
  rw[hF,qH,if_neg (by omega)];exact hA s h1
 have hj2:=hok.j1;refine⟨fun s=>(attS n).dF.getD s zB,Hs.hi (E:=fun _=>[]) (R:=fun _=>[]) (f0:=1) (com:=1) (fp:=1) ?_,?_,fun s h1 h2=>?_⟩
 .refine {
   pl:=by rw[zY];exact fun x hx=>by cases hx
   dl:=by rw[hF,zH];exact hlF
   f1:=by rw[zY];exact qXv 1
   c1:=by rw[zY];exact qXv 1
   c2:=by rw[zY];rfl
   c3:=qXv _
   c4:=by rw[zY];exact qXv 2
   c5:=by rw[zY];show 2<=1+n.jo+1;omega
   wh:=by rw[zY];exact qXv 1
   wq:=by rw[zY];exact fun i hi=>absurd hi (Nat.not_lt_zero _)
   rc:=by rw[zY];exact fun t h1 h2=>absurd h2 (by show¬t<2;omega)
   en:=fun t _=>⟨fun x hx=>(by cases hx),qXc,List.Pairwise.nil⟩
   cur:=hen.symm
   fx:=fun s _=>rfl
   o0:=by rw[zY];exact fun q hq=>by cases hq
   sd:=fun i hi=>?_
   so:=fun i hi=>?_
   jr:=fun j hj=> .inl ?_
   jw:=by rw[zY];exact fun t h1 h2=>absurd h1 (by show¬1<t;omega)
   sl:=fun t _ _ x hx=>by cases hx
   sf:=fun t _ _ x hx=>by cases hx}
  .have e:(attS n).which=1:=by rw[zY]
   have ec:(attS n).cov=1:=by rw[zY];rfl
   rw[e,ec,hF,qH,if_pos (by omega)]
   congr 1
   omega
  .have e:(attS n).which=1:=by rw[zY]
   rw[e,hget _ (by omega) (by omega),if_neg (by omega)];have:(if 1+(1-1)*n.pa+i=1 then pb0' else if 1+(1-1)*n.pa+i<n.s0 then zB else curB (List.replicate n.size zB) [] (1+(1-1)*n.pa+i))=(pagesB 0 []).getD i zB:=by
    by_cases h0:i=0
    .subst h0;rw[if_pos (by omega)];rfl
    .rw [if_neg (by omega),if_pos (by omega),Zw _ (by omega)]
   rw[this];exact uQ (E:=fun _=>[]) (s:=0) (by decide) i
  .simp only[CaN.jb];rw[hget _ (by omega) (by omega),if_neg (by omega),if_neg (by omega),if_pos (by omega)]
 .exact (hget 0 (by omega) (by omega)).trans (if_pos rfl)
 .simp only[CaN.jb]at h1;show(attS n).dF.getD s zB=zB;rw[hget s (by omega) (by omega),if_neg (by omega),if_neg (by omega),if_pos (by omega)]
theorem Zy:∀{l1 l2:List Nat},l1.Nodup->(∀x∈l1,x∈l2)->l1.length<=l2.length
 |[],_,_,_=>qYf _
 |x::l1,l2,h,hs=>by
  rw[qXb]at h;have hx:=hs x qzt;have:=Zy (l2:=l2.erase x) h.2 (fun y hy=>(List.mem_erase_of_ne (fun e=>h.1 (by rw[<-e];exact hy))).2 (hs y (qzs _ hy)));have hl:=List.length_erase_of_mem hx;have hp:=List.length_pos_of_mem hx;simp only[qze];omega
section
variable{n:CaN}{a:CaS}{o:Option Nat}
theorem CaS.live_count(ht:a.Tie n o)(hsm:∀k v,a.sums k=some v->v<=4294967295):(pos a.st 2).length=(a.ents n).length:=by
 obtain⟨-,h2,-⟩:=CaS.ents_enok ht hsm;have h1:∀s,s∈pos a.st 2↔s∈(a.ents n).map (·.s):=fun s=>by
  rw[tJ,ht.hsl];constructor
  .rintro ⟨q1,q2⟩;obtain⟨k,hk,e⟩:=ht.used s q1 q2;refine qzv.2 ⟨_,(CaS.ents_mem ht.hpl).2 ⟨k,hk,fun e2=>?_,rfl⟩,by show(plc a.ps k).1.toNat=s;rw[e,qxu]⟩;rw[e2]at e;have e:(-1:Int)=(s:Int):=e;omega
  .intro hq;obtain⟨x,hx,rfl⟩:=qzv.1 hq;exact CaS.ents_live ht hx
 have e1:=Zy (rR a.st 2) (fun s hs=>(h1 s).1 hs);have e2:=Zy h2 (fun s hs=>(h1 s).2 hs);rw[qzg]at e1 e2;omega
end
section
variable{own:Nat->Nat}{w w':World}{c:Nat}{n:CaN}{p:CaP}{a:CaS}{Z:Nat->Bk}{E:Nat->List Ent}{R:Nat->List Int}{f0 com fp:Nat}
theorem We(h:CaAt own w c n p a)(hs:Hs n Z a E R f0 com fp)(hP:a.dP=[])(hO:a.dO=[])(hN:a.next<=1099511627776):
  Calls Tryz.prog 22 #[.agg n.C.toArray,ptr p.ssd] w fun e w'=>∃(v:Value) (t wh sq:Nat),e=.returned (.tuple #[.int .i64 (wh:Int),.int .i64 (sq:Int),v,.int .i64 0])/\(com<=t/\t<=fp)/\(∀r∈scanTo a.dF [] n.jb n.jo n.jo,rseq r<=sq)/\sq<=fp/\
   Sl w' 37 4 v (E t).length ((E t).flatMap entC)/\tL own w c n p a v w':=by
 have ho:=h.open2;rw[hP,hO]at ho;obtain⟨b1,b2,s1,s2,j1,j2,l1,l2,a1,a2,p1,p2,z⟩:=h.ok;refine(YS ho (fun j hj=> .inr hj) h.nib (fun hs=>by rcases hs with hs|hs;rw[h.on]at hs;cases hs;have:=h.nib.lt;omega) n.id n.bl n.sl n.jo n.pa n.lo n.ba b1 b2 s1 s2 j1 j2 l1 l2 a1 a2 p1 p2 z h.fl).mono fun e w' he=>?_;obtain⟨v,t,wh,sq,rfl,t1,t2,-,-,t3,t4,t5,t6,t7,t8⟩:=hs.entries h.ok hN he;exact⟨v,t,wh,sq,rfl,⟨t1,t2⟩,t4,t3,t5,h.handed hP t6 (fun g hg=>t5.lt hg) t8 (by rw[hO];exact t7)⟩
theorem Je(h:CaAt own w c n p a)(hP:a.dP=[])(hO:a.dO=[]):
  Calls Tryz.prog 40 #[ptr p.ssd,.int .i64 (n.jb:Int),.int .i64 (n.jo:Int)] w fun e w'=>∃(v:Value) (L:List (List Nat)),e=.returned (.tuple #[v,.int .i64 0])/\L.Perm (scanTo a.dF [] n.jb n.jo n.jo)/\Sl w' 101 7 v L.length (L.flatMap recCs)/\tL own w c n p a v w':=by
 have ho:=h.open2;rw[hP,hO]at ho;have hs:=n.size_eq;have h0:=n.slot0_eq;refine(Ju ho (fun j hj=> .inr hj) n.jb n.jo (by have:=h.ok.j1;omega) h.ok.j2 (by rw[h.fl];simp only[CaN.jb];omega) h.nib (fun hs=>by rcases hs with hs|hs;rw[h.on]at hs;cases hs;have:=h.nib.lt;omega)).mono fun e w' he=>?_;obtain⟨v,L,rfl,q1,-,q2,q3,q4,q5⟩:=he;exact⟨v,L,rfl,q1,q2,h.handed hP q3 (fun g hg=>q2.lt hg) q5 (by rw[hO];exact q4)⟩
end
section
variable{n:CaN}{a b:CaS}{Z:Nat->Bk}{E:Nat->List Ent}{R:Nat->List Int}{f0 N:Nat}{o:Option Nat}
theorem CaS.Hi.allcom(h:a.Hi n Z)(hP:a.NoP)(hok:n.Ok)(ht:a.Tie n o):∃E R f0,Hs n Z (a.committed n).1 E R f0 (a.next-1) (a.next-1):=by
 obtain⟨E,R,f0,com,fp,h⟩:=h;obtain⟨com',fp',h2,h3⟩:=h.fb.cm (by have:=hok.j1;omega);have e1:(flushR a.bF a.bO a.bP).cd=0:=by rw[hP.2];rfl
 have e2:=Yp (1+2*n.pa) n.jo a.dF a.dO a.W;have e4:a.fb.com n=comR (1+2*n.pa) n.jo a.dF a.dO [] a.W:=by show comR _ _ a.dF a.dO a.dP a.W=_;rw[hP.1]
 rw[<-e4]at e2;unfold CaS.committed;rw[if_neg (fun x=>x e1),if_neg (fun x=>x e2.1)];obtain⟨e3,-,-⟩:=h3 e2.1;have e3:com'=a.next-1:=e3;subst e3;have c3:=h2.c3;have c4:fp'+1<=a.next:=h2.c4;obtain rfl:fp'=a.next-1:=by omega
 exact⟨E,R,f0,h2.freed (o:=o) rfl ht⟩
theorem CaS.Gd.all20(hg:a.Gd n N)(hP:a.NoP)(h:a.Hi n Z)(hok:n.Ok)(hW:a.W.length<=n.jo):
  ∃b:CaS,a.committed n=(b,0)/\b.NoP/\b.dO=[]/\b.Tie n none/\b.Fit (N+n.jo)/\∃E R f0,Hs n Z b E R f0 (b.next-1) (b.next-1):=by
 obtain⟨h0,h1,-,-⟩:=hP.committed (n:=n);obtain⟨E,R,f0,hh⟩:=h.allcom hP hok hg.tie;have hn:=(a.committed_next n).1;rw[<-hn]at hh;exact⟨(a.committed n).1,Prod.ext rfl h0,(CaS.dn_committed n a).noP hP,h1,hg.tie.committed,hg.fit.committed hW,E,R,f0,hh⟩
end
section
variable{own:Nat->Nat}{w w':World}{c:Nat}{n:CaN}{p:CaP}{a:CaS}{Z:Nat->Bk}{E:Nat->List Ent}{R:Nat->List Int}{f0:Nat}
theorem qT(h:CaAt own w c n p a)(hs:Hs n Z a E R f0 (a.next-1) (a.next-1))(hP:a.dP=[])(hO:a.dO=[])(hN:a.next<=1099511627776):
  Calls Tryz.prog 22 #[.agg n.C.toArray,ptr p.ssd] w fun e w'=>∃(v:Value) (wh sq:Nat),e=.returned (.tuple #[.int .i64 (wh:Int),.int .i64 (sq:Int),v,.int .i64 0])/\(∀r∈scanTo a.dF [] n.jb n.jo n.jo,rseq r<=sq)/\
   Sl w' 37 4 v (a.ents n).length ((a.ents n).flatMap entC)/\tL own w c n p a v w':=by
 refine(We h hs hP hO hN).mono fun e w' he=>?_;obtain⟨v,t,wh,sq,rfl,⟨t1,t2⟩,q1,-,q2,q3⟩:=he;obtain rfl:t=a.next-1:=by omega
 rw[hs.cur]at q2;exact⟨v,wh,sq,rfl,q1,q2,q3⟩
end
end Go.Proofs.YtfhfbpmlnjdfoaaGreatDoor
