/- attach.Apply: the plain side. The record that  -/
import Derived.Test.YtfhfbpmlnjdfoaaGreatDoorG37
set_option maxRecDepth 100000
set_option maxHeartbeats 4000000
namespace Go.Proofs.YtfhfbpmlnjdfoaaGreatDoor
open Go Go.RowKit
structure EI where
 b:Int
 s:Int
 d:Bool
 x:Int
def EI.cs(e:EI):List Value:=[.int .i64 e.b,.int .i64 e.s,.bool e.d,.int .i64 e.x]
def EI.enc(e:EI):Value:=.agg e.cs.toArray
theorem EI.enc_inj(x y:EI)(h:x.enc=y.enc):x=y:=by
 obtain⟨a,b,c,d⟩:=x;obtain⟨a',b',c',d'⟩:=y;simp only[EI.enc,EI.cs,Value.agg.injEq]at h;obtain⟨rfl,rfl,rfl,rfl⟩:=h;rfl
theorem EI.one(e:EI):∀v∈e.cs,v.oneCell'=true:=by
 intro v hv;simp only[EI.cs,qzr,qXd,qZb]at hv;rcases hv with rfl|rfl|rfl|rfl<;>rfl
def EI.zero:EI:=⟨0,0,false,0⟩
def Rp(x:Int):Prop:= -9223372036854775808<=x/\x<9223372036854775808
def apPut(f:Int->Option EI)(e:EI):Int->Option EI:=fun s=>if s=e.b then some e else f s
def apM(l:List EI):Int->Option EI:=l.foldl apPut (fun _=>none)
theorem Qv(l:List EI)(e:EI):apM (l++[e])=apPut (apM l) e:=by simp[apM,List.foldl_append]
theorem Qw(l:List EI){k:Nat}(hk:k<l.length):apM (l.take (k+1))=apPut (apM (l.take k)) l[k]:=by
 rw[qXq hk,Qv]
def AtB(f:Int->Option EI):Prop:=∀s e,f s=some e->e.b=s
theorem Qx(l:List EI):∀f,AtB f->AtB (l.foldl apPut f)/\∀s,((l.foldl apPut f) s).isSome=true↔s∈l.map EI.b\/(f s).isSome=true:=by
 induction l with
 |nil=>intro f h;exact⟨h,fun s=>by simp⟩
 |cons e l ih=>
  intro f h;have h':AtB (apPut f e):=by
   intro s e' he;unfold apPut at he;split at he
   .rename_i hs;cases he;exact hs.symm
   .exact h s e' he
  refine⟨(ih _ h').1,fun s=>?_⟩;rw[List.foldl_cons,(ih _ h').2 s,qzm,qzr];unfold apPut;by_cases hs:s=e.b
  .simp [hs]
  .simp [hs]
theorem Em(l:List EI):AtB (apM l):=(Qx l _ (fun s e h=>by cases h)).1
theorem YE(l:List EI)(s:Int):(apM l s).isSome=true↔s∈l.map EI.b:=by
 have:=(Qx l (fun _=>none) (fun s e h=>by cases h)).2 s;simpa[apM]using this
theorem XN{l:List EI}{k:Nat}(hk:k<l.length)(hn:((l.take k).map EI.b).Nodup)(h:(apM (l.take k) l[k].b).isSome=false):((l.take (k+1)).map EI.b).Nodup:=by
 rw[qXq hk,qzl,qXa];refine⟨hn,by simp,fun a ha b hb e=>?_⟩;simp only[qzm,qzo,qzy]at hb;subst hb;rw[e]at ha;have:=(YE _ _).2 ha;rw[h]at this;cases this
theorem Uo{l:List EI}{k:Nat}(hk:k<l.length)(h:(apM (l.take k) l[k].b).isSome=true):¬(l.map EI.b).Nodup:=by
 intro hn;have h1:=(YE _ _).1 h;rw[<-qXo k l,qzl,qXa]at hn;exact hn.2.2 _ h1 _ (List.mem_map_of_mem (by rw[qyb hk];exact qzt)) rfl
def recE(r:List Int):EI:=⟨r.getD 3 0,r.getD 4 0,r.getD 5 0==1,r.getD 6 0⟩
def apR(f:Int->Option EI)(r:List Int):Int->Option EI:=fun s=>if s=r.getD 3 0 then(if r.getD 2 0=0 then some (recE r)else none)else f s
def apRs(f:Int->Option EI)(rs:List (List Int)):Int->Option EI:=rs.foldl apR f
theorem sa(f:Int->Option EI)(rs:List (List Int)){k:Nat}(hk:k<rs.length):apRs f (rs.take (k+1))=apR (apRs f (rs.take k)) rs[k]:=by
 rw[qXq hk];unfold apRs;rw[List.foldl_append];rfl
theorem SF(rs:List (List Int)):∀f,AtB f->AtB (apRs f rs):=by
 induction rs with
 |nil=>intro f h;exact h
 |cons r rs ih=>
  intro f h;refine ih _ (fun s e he=>?_);unfold apR at he;split at he
  .rename_i hs
   split at he
   .cases he;exact hs.symm
   .cases he
  .exact h s e he
theorem SG{p:EI->Prop}(l:List EI):∀f,(∀s e,f s=some e->p e)->(∀e∈l,p e)->∀s e,(l.foldl apPut f) s=some e->p e:=by
 induction l with
 |nil=>intro f h _;exact h
 |cons x l ih=>
  intro f h hl;refine ih _ (fun s e he=>?_) (fun e he=>hl e (qzs _ he));unfold apPut at he;split at he
  .cases he;exact hl _ qzt
  .exact h s e he
theorem Qy{p:EI->Prop}{l:List EI}{rs:List (List Int)}(hl:∀e∈l,p e)(hr:∀r∈rs,p (recE r)):∀s e,apRs (apM l) rs s=some e->p e:=by
 have:∀(rs:List (List Int)) f,(∀s e,f s=some e->p e)->(∀r∈rs,p (recE r))->∀s e,apRs f rs s=some e->p e:=by
  intro rs
  induction rs with
  |nil=>intro f h _;exact h
  |cons r rs ih=>
   intro f h hr;refine ih _ (fun s e he=>?_) (fun r hr'=>hr r (qzs _ hr'));unfold apR at he;split at he
   .split at he
    .cases he;exact hr _ qzt
    .cases he
   .exact h s e he
 exact this rs _ (SG l _ (fun s e h=>by cases h) hl) hr
def Lists(f:Int->Option EI)(L:List EI):Prop:=(L.map EI.b).Nodup/\∀e,e∈L↔f e.b=some e
def cntS(L:List EI)(s:Int):Nat:=L.countP (fun e=>e.s==s)
def takenF(L:List EI):Int->Option Int:=fun s=>if cntS L s=0 then none else some (cntS L s:Int)
theorem YF(L:List EI)(e:EI):takenF (L++[e])=fun s=>if s=e.s then some ((cntS L e.s:Int)+1)else takenF L s:=by
 funext s
 unfold takenF cntS;rw[List.countP_append];by_cases h:s=e.s
 .subst h;simp
 .have h':(e.s==s)=false:=by simp;exact fun e=>h e.symm
  simp[h,h']
theorem YG(L:List EI)(s:Int):cntS L s=0↔s∉L.map EI.s:=by
 unfold cntS;rw[List.countP_eq_zero];simp only[qzv,not_exists,not_and,beq_iff_eq]
theorem SH(L:List EI)(s:Int):cntS L s<=L.length:=List.countP_le_length
theorem YH(L:List EI)(s:Int):(takenF L s).getD 0=(cntS L s:Int):=by
 unfold takenF;split
 .rename_i h;rw[h];rfl
 .rfl
theorem tk(L:List EI)(s:Int):(takenF L s).isSome=true↔s∈L.map EI.s:=by
 unfold takenF;by_cases h:cntS L s=0
 .rw [if_pos h];exact⟨fun h'=>(by cases h'),fun h'=>absurd h' ((YG L s).1 h)⟩
 .rw [if_neg h];exact⟨fun _=>Classical.byContradiction fun h'=>h ((YG L s).2 h'),fun _=>rfl⟩
theorem XO{F:Int->Option EI}{L:List EI}{left:Int->Bool}{x:Int}{en:EI}(hF:F x=some en)(heb:en.b=x)(hlx:left x=true)(hN:(L.map EI.b).Nodup)(hM:∀e,e∈L↔F e.b=some e/\left e.b=false):
  ((L++[en]).map EI.b).Nodup/\∀e,e∈L++[en]↔F e.b=some e/\(left e.b&&!decide (e.b=x))=false:=by
 refine⟨?_,fun e=>?_⟩
 .rw [qzl,qXa];refine⟨hN,by simp,fun a ha b hb hab=>?_⟩;simp only[qzm,qzo,qzy]at hb;obtain⟨e,he,rfl⟩:=qzv.1 ha;have:=((hM e).1 he).2;rw[hab,hb,heb,hlx]at this;cases this
 .rw [qzq,qzy,hM e];by_cases h:e.b=x
  .rw [qYy h,h];constructor
   .rintro (⟨-,h2⟩|rfl)
    .rw [hlx]at h2;cases h2
    .exact ⟨hF,by simp⟩
   .rintro ⟨h1,-⟩;rw[hF]at h1;exact .inr (qYj h1).symm
  .rw [decide_eq_false h];constructor
   .rintro (h2|rfl)
    .simpa using h2
    .exact absurd heb h
   .intro h2;exact .inl (by simpa using h2)
theorem Qz{L:List EI}(en:EI){c:Nat}(h1:c<=L.length)(h2:c=L.length↔(L.map EI.s).Nodup):
  (if(takenF L en.s).isSome=true then c else c+1)<=(L++[en]).length/\((if(takenF L en.s).isSome=true then c else c+1)=(L++[en]).length↔((L++[en]).map EI.s).Nodup):=by
 rw[qzd,qzl,qXa];simp only[qze,qzh];by_cases h:(takenF L en.s).isSome=true
 .rw [if_pos h];refine⟨by omega,fun e=>by omega,fun e=>?_⟩;exact absurd rfl (e.2.2 _ ((tk L en.s).1 h) en.s (by simp))
 .rw [if_neg h];refine⟨by omega,fun e=>⟨h2.1 (by omega),by simp,fun a ha b hb hab=>?_⟩,fun e=>by have:=h2.2 e.1;omega⟩;simp only[qzm,qzo,qzy]at hb;rw[hab,hb]at ha;exact h ((tk L en.s).2 ha)
theorem Up{L L':List EI}(hp:L'.Perm L)(hn:(L.map EI.b).Nodup)(hs:L'.Pairwise (fun x y=>x.b<=y.b)):L'.Pairwise (fun x y=>x.b<y.b):=by
 have h1:(L'.map EI.b).Nodup:=(hp.map EI.b).nodup_iff.2 hn;have h2:L'.Pairwise (fun x y=>x.b≠y.b):=qXf.1 h1;exact(hs.and h2).imp (fun h=>by have:=h.1;have:=h.2;omega)
theorem XP{F:Int->Option EI}{L L':List EI}(h:Lists F L)(hp:L'.Perm L):Lists F L':=⟨(hp.map EI.b).nodup_iff.2 h.1,fun e=>(hp.mem_iff).trans (h.2 e)⟩
def zeroR:List Value:=[Value.int .i64 0,.int .i64 0,.int .i64 0,.int .i64 0,.int .i64 0,.bool false,.int .i64 0]
theorem zR_one:(zeroR.toArray).all (·.oneCell')=true:=by simp[zeroR,Value.oneCell']
theorem QA{w:World}(b:Bk)(hb:b.length=64)(k:Nat)(ss:List Nat)(hss:(∀s∈ss,1<=s/\s<=7)/\ss.sum<=59)(m:Nat)(hm:ss.length=m)(hm2:m<=100)(gs cl:Nat)(fm fb:Nat)(cm cb:Array Value)(tv:Value)(mb:Bool)(ds:List Value)
  (hds:(Tryz.prog.info? 101).map (·.size)=some ds.length) (hd1:∀v∈ds,v.oneCell'=true) (hs:w.rangeAt gs 0 (ints (natsI ss))) (hN:Nib w)
  (entM:∀args w,(callFunc fm args).run Tryz.prog w=.ok (.enter fm args) w) (entB:∀args w,(callFunc fb args).run Tryz.prog w=.ok (.enter fb args) w)
  (hmay:∀W gl c,c=m->Below w.heap.size w W->W.rangeAt gl 0 (ints (natsI (numsAt b 1 ss)))->Calls Tryz.prog fm (#[.slice (some ⟨gl,0,none⟩) m c]++cm) W fun e W'=>e=.returned (.bool mb)/\Below W.heap.size W W')
  (hbuild:okGet b k ss mb=true->∀W gl c,c=m->Below w.heap.size w W->W.rangeAt gl 0 (ints (natsI (numsAt b 1 ss)))->Calls Tryz.prog fb (#[.slice (some ⟨gl,0,none⟩) m c]++cb) W fun e W'=>e=.returned (.agg ds.toArray)/\Below W.heap.size W W'):
  Calls Tryz.prog 177 #[.agg #[.int .i64 (k:Int),.slice (some ⟨gs,0,none⟩) m cl,tv,.func (.func fm) #[] cm,.func (.func fb) #[] cb],.agg (bkC b).toArray] w
   (wN w (okGet b k ss mb) ds zeroR (yK b k ss mb)):=by
 have H:=Y6 hs hN hmay hbuild hss hm;have HC:=Y3 hds hd1 hb;clear hs hN hmay hbuild hss hm hds hd1 hb;have hr:((w.alloc (.cells #[.int .i64 (k:Int),.slice (some ⟨gs,0,none⟩) m cl,tv,.func (.func fm) #[] cm,.func (.func fb) #[] cb] 296)).alloc (.cells (bkC b).toArray 54)).rangeAt (w.heap.size+1) 0 (bkC b):=zg (zc _ _ (by simp));go_enter Tryz.func177,Tryz.ntmps177
 go_wp2_with (first
  |(refine qZg rfl _ _ rfl _ _ rfl _ _ (qYp (qYp hr _) _) Tryz.underlying54 rfl (zt _ HC.o.2.2) ?_)
  |fail)
 show Calls _ _ _ ((((w.alloc (.cells #[.int .i64 (k:Int),.slice (some ⟨gs,0,none⟩) m cl,tv,.func (.func fm) #[] cm,.func (.func fb) #[] cb] 296)).alloc (.cells (bkC b).toArray 54)).alloc (.cells zeroR.toArray 101)).alloc (.cells zeroR.toArray 101)) _;obtain⟨Z,hZ⟩:∃Z:List Value,Z=zeroR:=⟨_,rfl⟩
 rw[<-hZ];have hZs:Hid (Z.toArray.size=7):=by show _=_;rw[hZ];rfl
 have hZl:Hid (Z.length=7):=by show _=_;rw[hZ];rfl
 have hsZ:Hid ((Tryz.prog.info? 101).map (·.size)=some Z.length):=by show _=_;rw[hZ];exact infoThR
 have hsA:Hid ((Tryz.prog.info? 101).map (·.size)=some Z.toArray.size):=by show _=_;rw[hZ];exact infoThR
 have hZ1:Hid ((Z.toArray).all (·.oneCell')=true):=by show _=_;rw[hZ];exact zR_one
 have HZ:=qqh hZ;clear hZ;obtain⟨h1,h2,h3,h4,h5,h6⟩:=xw w (.cells #[.int .i64 (k:Int),.slice (some ⟨gs,0,none⟩) m cl,tv,.func (.func fm) #[] cm,.func (.func fb) #[] cb] 296) (.cells (bkC b).toArray 54) (.cells Z.toArray 101) (.cells Z.toArray 101);clear hr;generalize (((w.alloc (.cells #[.int .i64 (k:Int),.slice (some ⟨gs,0,none⟩) m cl,tv,.func (.func fm) #[] cm,.func (.func fb) #[] cb] 296)).alloc (.cells (bkC b).toArray 54)).alloc (.cells Z.toArray 101)).alloc (.cells Z.toArray 101)=w4 at*;refine(vn b HC.o.2.2 (H.o.2.1.keep h6 (fun h=>h))).mono ?_;rintro e w5 ⟨rfl,hb5⟩;have hu5:=qqb hb5;have g1:=(hu5.block _ (zd h1) (fun h=>h)).trans h1;have g2:=(hu5.block _ (zd h2) (fun h=>h)).trans h2;have g3:=(hu5.block _ (zd h3) (fun h=>h)).trans h3;have g4:=(hu5.block _ (zd h4) (fun h=>h)).trans h4;have hz5:=hu5.size;have H5:=Y7 g1 g2 g3 g4 (h6.trans hu5) h5 hz5;clear h1 h2 h3 h4 h5 h6 g1 g2 g3 g4 hu5 hb5 hz5;by_cases hsl:sealB b=b
 .have hsc:sealedC b=0:=if_pos hsl;rw[hsc];clear hsc;have HS:=qqh hsl;clear hsl;obtain⟨g1,g2,g3,g4,u5,z4,z5⟩:=H5.o;have r5:=zg g2;clear g1 g2 g3 g4 u5;go_wp2_with (first
   |(refine qZg rfl _ _ rfl _ _ rfl _ _ r5 Tryz.underlying54 rfl (zt _ HC.o.2.2) ?_)
   |fail)
  refine(Tf b HC.o.2.2).mono ?_;rintro e w6 ⟨g,rfl,hR6,hge,hb6⟩;have HX:=Y2 hR6 hb6;clear hR6 hb6;go_wp2_with fail
  refine(rv HX.o.1 1 (by decide) (by decide) (by decide)).mono ?_;rintro e w7 ⟨rfl,hR7,hU7⟩;obtain⟨kb,hkb⟩:=qqe (numB ((b.drop 0).take 1));rw[<-hkb];have HK:=qqh hkb;clear hkb;obtain⟨g1,g2,g3,g4,u5,z4,z5⟩:=H5.o;obtain⟨hs,hN,-,-,hss,hm⟩:=H.o;have u57:Upd (fun j=>j=g) w5 w7:=((uuo (S:=fun _=>False) HX.o.2).mono (fun _ _ h=>h.elim)).trans hU7;have u7:Upd (fun j=>j=g) w w7:=(u5.mono (fun _ _ h=>h.elim)).trans u57;have hM7:w.heap.size+4<=w7.heap.size:=by have:=u57.size;omega
  have gM:w.heap.size+4<=g:=by omega
  have m1:w7.cell? ⟨w.heap.size,1,none⟩=some (.slice (some ⟨gs,0,none⟩) m cl):=u57.cellv (za g1 1) (by omega);have a1:=(u57.block _ (zd g1) (by omega)).trans g1;have a3:=(u57.block _ (zd g3) (by omega)).trans g3;have a4:=(u57.block _ (zd g4) (by omega)).trans g4;have gslt:gs<w.heap.size\/m=0:=by
   rcases qXt m with h|h
   .exact .inr h
   .exact .inl (qYn w _ (hs 0 _ (xp (by omega))))
  have hs7:∀i (hi:i<ss.length),w7.cell? ⟨gs,i,none⟩=some (.int .i64 (ss[i]:Int)):=fun i hi=>by
   have:=u7.cellv (hs i _ (xp hi)) (by omega)
   rwa[qYe]at this
  have hua:Upd (fun _=>False) w7 (w7.alloc (.cells (ints (List.replicate m 0)).toArray 3)):=(uur _ _).alloc _;have hgL:=zc w7 (.cells (ints (List.replicate m 0)).toArray 3) rfl;have hmk:=vR m (by omega) w7;have hR8:=hR7.keep hua (fun h=>h);have hglt:=hR7.lt;have m18:(w7.alloc (.cells (ints (List.replicate m 0)).toArray 3)).cell? ⟨w.heap.size,1,none⟩=some (.slice (some ⟨gs,0,none⟩) m cl):=hua.cellv m1 (fun h=>h);have H8:=Y12 hua hgL hR8 a1 a3 a4 hs7 gslt u7 hss hm hN;clear g1 g2 g3 g4 u5 z4 hs hN hss hm u57 u7 a1 a3 a4 gslt hs7 hua hgL hR8 hU7 hR7 r5 z5;go_wp2
  clear hmk m1;generalize hW8:w7.alloc (.cells (ints (List.replicate m 0)).toArray 3)=w8 at*;have HW8:=qqh hW8;clear hW8;generalize hL:w7.heap.size=L at*;have HL:=qqh hL;clear hL;go_loopw[30] (fun s30 wr=>∃i:Nat,i<=m/\s30=.int .i64 i/\yJ wr g b (1+(ss.take i).sum)/\wr.heap[L]?=some (.cells (ints (fillI (numsAt b 1 ss) i)).toArray 3 (0,0))/\Upd (fun j=>j=g\/j=L) w8 wr) (fun s30 _=>m-(intOf s30).toNat)
  case atStart=>exact⟨0,qYf _,rfl,by simpa using H8.o.2.2.1,by rw[H8.o.2.1];simp[fillI,natsI,zC,H8.o.2.2.2.2.2.2.2.2.2.2.1],uur _ _⟩
  case round=>
   obtain⟨i,hi,rfl,hR,hL,hu⟩:=hrel;obtain⟨hua,hgL,hR8,a1,a3,a4,hs7,gslt,u7,hss,hm,hN⟩:=H8.o;by_cases hlt:i<m
   .have hil:i<ss.length:=by omega
    have x1:wr.cell? ⟨gs,i,none⟩=some (.int .i64 (ss[i]:Int)):=hu.cellv (hua.cellv (hs7 i hil) (fun h=>h)) (by omega);have hsi:=hss.1 ss[i] (qyz hil);obtain⟨t1,t2⟩:=tV ss hil;have hng:¬L=g:=by omega
    have hcx:∃v,wr.cell? ⟨L,i,none⟩=some v:=by
     rw[za hL];exact⟨_,qxe (by rw[qXm,yq,uu _ (by rw[zC];omega),zC];omega)⟩
    have hnx:Hid ((ints (fillI (numsAt b 1 ss) i)).toArray.setIfInBounds i (.int .i64 ((numB ((b.drop (1+(ss.take i).sum)).take ss[i]):Nat):Int))=(ints (fillI (numsAt b 1 ss) (i+1))).toArray):=by
     show _=_;rw[qXi,vS,<-vr b 1 ss i hil,uv _ (by rw[zC];exact hil)]
    have hsum:Hid (1+(ss.take (i+1)).sum=1+(ss.take i).sum+ss[i]):=by show _=_;omega
    have b1:(0:Int)<=(i:Int)/\(i:Int)<(m:Int):=by omega
    have hbd:1+(ss.take i).sum+ss[i]<=60:=by omega
    have HX2:=Y6 hR hL hu hsi hbd hcx;clear hua hgL hR8 a1 a3 a4 hs7 gslt u7 hss hm hN t1 t2 hR hL hu hcx hbd hsi;obtain⟨b1,b2⟩:=b1;generalize ss[i]=si at*;go_wp2_with fail
    refine(rv HX2.o.1 si HX2.o.2.2.2.1.1 HX2.o.2.2.2.1.2 HX2.o.2.2.2.2.1).mono ?_;rintro e w9 ⟨rfl,hR9,hU9⟩;have hL9:=(hU9.block L (zd HX2.o.2.1) hng).trans HX2.o.2.1;obtain⟨v0,hv0⟩:=HX2.o.2.2.2.2.2;have c9:=hU9.cellv hv0 hng;have z9:=zf hL9 i;have hL10:=zh hL9 i (.int .i64 ((numB ((b.drop (1+(ss.take i).sum)).take si):Nat):Int));rw[hnx.out]at hL10;have hR10:=hR9.keep (zi w9 L i (.int .i64 ((numB ((b.drop (1+(ss.take i).sum)).take si):Nat):Int))) (fun e=>hng e.symm);rw[<-hsum.out]at hR10;have hU10:Upd (fun j=>j=g\/j=L) w8 (w9.setCell ⟨L,i,none⟩ (.int .i64 ((numB ((b.drop (1+(ss.take i).sum)).take si):Nat):Int))):=
     HX2.o.2.2.1.trans ((hU9.mono (fun _ _ h=> .inl h)).trans ((zi _ _ _ _).mono (fun _ _ h=> .inr h)))
    have HZ:=Y3 hR10 hL10 hU10;clear hL9 hv0 hL10 hR10 hU10 hU9 hR9;go_wp2
    go_roundw
    case rel=>exact⟨i+1,by omega,by go_num,HZ.o.1,HZ.o.2.1,HZ.o.2.2⟩
    case measure=>simp[intOf];omega
   .obtain rfl:i=m:=by omega
    rw[qXp (by omega)]at hR;have hl5:i=(numsAt b 1 ss).length:=by rw[zC];omega
    rw[show fillI (numsAt b 1 ss) i=natsI (numsAt b 1 ss) by rw[hl5];exact uw _]at hL;clear hl5;have u8r:Upd (fun j=>j=g\/j=L) w7 wr:=(hua.mono (fun _ _ h=>h.elim)).trans hu;have hLw:w.heap.size+4<=L:=hM7;have hlw:Below w.heap.size w wr:=by
     refine zj (zj (qxl _ w) u7 (qXv _) (fun k e=>by omega)) u8r (qXv _) (fun k e=>by omega)
    have e1:=(u8r.block _ (zd a1) (by omega)).trans a1;have e3:=(u8r.block _ (zd a3) (by omega)).trans a3;have e4:=(u8r.block _ (zd a4) (by omega)).trans a4;have hErr:∀W,Below wr.heap.size wr W->W.rangeAt (w.heap.size+1+1+1) 0 Z/\W.there (w.heap.size+1+1) 0 7/\Below w.heap.size w W:=fun W hW=>by
     have f3:=(hW.block _ (zd e3)).trans e3;refine⟨zg ((hW.block _ (zd e4)).trans e4),fun j hj=>?_,hlw.trans (hW.mono hlw.size)⟩;rw[za f3,zf f3];exact⟨by rw[qYe,qxe (by have:=hZl.out;simp;omega)];rfl,rfl⟩
    have m0:wr.cell? ⟨w.heap.size,0,none⟩=some (.int .i64 (k:Int)):=za e1 0;have m3:wr.cell? ⟨w.heap.size,3,none⟩=some (.func (.func fm) #[] cm):=za e1 3;have m4:wr.cell? ⟨w.heap.size,4,none⟩=some (.func (.func fb) #[] cb):=za e1 4;have HE:=Y6 hErr m3 m4 hR (zg hL) hlw;obtain⟨rz,tz,hbz⟩:=hErr wr (qxl _ _);clear hua hgL hR8 a1 a3 a4 hs7 gslt u7 hss hm hN hR hL hu u8r hlw e1 e3 e4 hErr m3 m4;by_cases hkk:kb=k
    .have hq:((kb:Int)==(k:Int))=true:=by rw[hkk];simp
     have hq2:((kb:Int) !=(k:Int))=false:=by rw[hkk];simp
     have HKK:=qqh hkk;clear hkk rz tz hbz;go_wp2_with fail
     refine(JG HE.o.2.2.2.1).mono ?_;rintro e w10 ⟨rfl,hb10⟩;obtain⟨rz,tz,hbz⟩:=HE.o.1 w10 hb10;have m3:=(uuo (S:=fun _=>False) hb10).cellv HE.o.2.1 (fun h=>h);have m4:=(uuo (S:=fun _=>False) hb10).cellv HE.o.2.2.1 (fun h=>h);have rL:=Below.range hb10 HE.o.2.2.2.2.1;have H10:=Y3 hb10 rL m4;clear rL m4 hb10;have HBz:=qqh hbz;clear hbz;by_cases hen:endB b (1+ss.sum)=true
     .have he0:endC b (1+ss.sum)=0:=if_pos hen;rw[he0];clear he0 rz tz;have HEN:=qqh hen;clear hen;go_wp2_with fail
      refine(H.o.2.2.1 w10 L i rfl HBz.out H10.o.2.1).mono ?_;rintro e w11 ⟨rfl,hb11⟩;obtain⟨rz,tz,hbz11⟩:=HE.o.1 w11 (H10.o.1.trans (hb11.mono H10.o.1.size));have m4:=(uuo (S:=fun _=>False) hb11).cellv H10.o.2.2 (fun h=>h);have rL:=Below.range hb11 H10.o.2.1;have HBz11:=qqh hbz11;have HRL:=qqh rL;have HBz11b:=qqh hb11;clear rL hbz11 hb11;cases mb with
      |true=>
       have HR:Hid (okGet b k ss true=true):=by
        show _=_;simp only[okGet,HS.o,HEN.o,decide_true,qxp,Bool.and_true,qYz];have:=HK.o;rw[qyc]at this;rw[<-this,HKK.o]
       clear rz tz;go_wp2_with fail
       refine(H.o.2.2.2.1 HR.o w11 L i rfl HBz11.out HRL.o).mono ?_;rintro e w12 ⟨rfl,hb12⟩;obtain⟨-,tz,hbz12⟩:=HE.o.1 w12 ((H10.o.1.trans ((HBz11b.out).mono H10.o.1.size)).trans (hb12.mono (by have:=H10.o.1.size;have:=HBz11b.out.size;omega)));have hdl:ds.length=7:=by have h1:=HC.o.1;rw[infoThR]at h1;injection h1 with h1;exact h1.symm
       have hst:w12.there (w.heap.size+1+1) 0 ds.toArray.size:=by rw[show ds.toArray.size=7 by simpa using hdl];exact tz
       have hst2:w12.there (w.heap.size+1+1) 0 ds.length:=by rw[hdl];exact tz
       have hsz2:(Tryz.prog.info? 101).map (·.size)=some ds.toArray.size:=by rw[show ds.toArray.size=7 by simpa using hdl];exact infoThR
       have HST:=Y4 hst hsz2 hst2 hbz12;clear hst hsz2 hst2 hdl hbz12 tz hb12;go_wp2_with (first
        |(refine qZi rfl _ _ _ rfl _ _ ds.toArray rfl rfl HST.o.1 HST.o.2.1 (qYu HC.o.2.1) ?_)
        |fail)
       exact qYw (zn rfl _ _ (w.heap.size+1+1) 0 ds _ rfl (qYr _ _ _ _ HST.o.2.2.1) Tryz.underlying101 rfl HC.o.1) rfl
        ⟨⟨ds,fun _=>rfl,fun h=>(by rw[HR.o]at h;cases h),by rw[show yK b k ss true=0 from if_pos HR.o];rfl⟩,zj HST.o.2.2.2 (zp _ (w.heap.size+1+1) 0 _) (qXv _) (fun k e=>by omega)⟩
      |false=>
       have HR:Hid (okGet b k ss false=false):=by show _=_;simp[okGet]
       go_wp2_with (first
        |(refine qZg rfl _ _ rfl _ _ rfl _ _ rz Tryz.underlying101 rfl hsZ.out ?_)
        |(refine qZi rfl _ _ _ rfl _ _ Z.toArray rfl rfl (by rw[hZs.out];exact tz) hsA.out hZ1.out ?_)
        |fail)
       exact qYw (zn rfl _ _ (w.heap.size+1+1) 0 Z _ rfl (qYr _ _ _ _ (by first|(rw[hZs.out];exact tz)|(rw[hZl.out];exact tz))) Tryz.underlying101 rfl hsZ.out) rfl
        ⟨⟨_,fun h=>(by rw[HR.o]at h;cases h),fun _=>rfl,by rw[yL HS.o HR.o,HZ.o];rfl⟩,zj HBz11.out (zp _ (w.heap.size+1+1) 0 _) (qXv _) (fun k e=>by omega)⟩
     .have he0:endC b (1+ss.sum)=12:=if_neg hen;rw[he0];clear he0;have HR:Hid (okGet b k ss mb=false):=by show _=_;simp[okGet,hen]
      clear hen;go_wp2_with (first
       |(refine qZg rfl _ _ rfl _ _ rfl _ _ rz Tryz.underlying101 rfl hsZ.out ?_)
       |(refine qZi rfl _ _ _ rfl _ _ Z.toArray rfl rfl (by rw[hZs.out];exact tz) hsA.out hZ1.out ?_)
       |fail)
      exact qYw (zn rfl _ _ (w.heap.size+1+1) 0 Z _ rfl (qYr _ _ _ _ (by first|(rw[hZs.out];exact tz)|(rw[hZl.out];exact tz))) Tryz.underlying101 rfl hsZ.out) rfl
       ⟨⟨_,fun h=>(by rw[HR.o]at h;cases h),fun _=>rfl,by rw[yL HS.o HR.o,HZ.o];rfl⟩,zj HBz.out (zp _ (w.heap.size+1+1) 0 _) (qXv _) (fun k e=>by omega)⟩
    .have hq:((kb:Int)==(k:Int))=false:=by rw[qYv];omega
     have hq2:((kb:Int) !=(k:Int))=true:=by rw[bne_iff_ne];omega
     have HR:Hid (okGet b k ss mb=false):=by
      show _=_;have:=HK.o;rw[qyc]at this;simp[okGet,<-this,hkk]
     have HBz:=qqh hbz;clear hkk hbz;go_wp2_with (first
      |(refine qZg rfl _ _ rfl _ _ rfl _ _ rz Tryz.underlying101 rfl hsZ.out ?_)
      |(refine qZi rfl _ _ _ rfl _ _ Z.toArray rfl rfl (by rw[hZs.out];exact tz) hsA.out hZ1.out ?_)
      |fail)
     exact qYw (zn rfl _ _ (w.heap.size+1+1) 0 Z _ rfl (qYr _ _ _ _ (by first|(rw[hZs.out];exact tz)|(rw[hZl.out];exact tz))) Tryz.underlying101 rfl hsZ.out) rfl
      ⟨⟨_,fun h=>(by rw[HR.o]at h;cases h),fun _=>rfl,by rw[yL HS.o HR.o,HZ.o];rfl⟩,zj HBz.out (zp _ (w.heap.size+1+1) 0 _) (qXv _) (fun k e=>by omega)⟩
 .have hsc:sealedC b=13:=if_neg hsl;have hres:=vt (k:=k) (ss:=ss) (mb:=mb) hsl;rw[hsc];have HR:=qqh hres;clear hsc hsl hres;obtain⟨g1,g2,g3,g4,u5,z4,z5⟩:=H5.o;have r4:=zg g4;have hth:w5.there (w.heap.size+1+1) 0 7:=fun j hj=>by
   rw[za g3,zf g3];exact⟨by rw[qYe,qxe (by have:=hZl.out;simp;omega)];rfl,rfl⟩
  have HU:=qqh u5;clear g1 g2 g3 g4 u5 z4 z5;go_wp2_with (first
   |(refine qZg rfl _ _ rfl _ _ rfl _ _ r4 Tryz.underlying101 rfl hsZ.out ?_)
   |(refine qZi rfl _ _ _ rfl _ _ Z.toArray rfl rfl (by rw[hZs.out];exact hth) hsA.out hZ1.out ?_)
   |fail)
  refine qYw (zn rfl _ _ (w.heap.size+1+1) 0 Z _ rfl (qYr _ _ _ _ (by first|(rw[hZs.out];exact hth)|(rw[hZl.out];exact hth))) Tryz.underlying101 rfl hsZ.out) rfl
   ⟨⟨_,fun h=>(by rw[HR.o.1]at h;cases h),fun _=>rfl,by rw[HR.o.2,HZ.o];rfl⟩,zj (Upd.below HU.o) (zp w5 (w.heap.size+1+1) 0 _) (qXv _) (fun k e=>by omega)⟩
def numsR(b:Bk):List Nat:=numsAt b 1 szR
def okR(b:Bk):Bool:=okGet b 2 szR (mayR (natsI (numsR b)))
def cdR(b:Bk):Int:=yK b 2 szR (mayR (natsI (numsR b)))
def YI(w:World)(b:Bk):Ending->World->Prop:=wN w (okR b) (dsR (natsI (numsR b))) zeroR (cdR b)
theorem Uq{w:World}{gs gt:Nat}(hF:Th w gs gt)(hN:Nib w)(b:Bk)(hb:b.length=64):
  Calls Tryz.prog 177 #[Xn gs gt,.agg (bkC b).toArray] w (YI w b):=by
 obtain⟨hs,v,hv,hB⟩:=hF;refine QA (w:=w) b hb 2 szR ⟨by simp[szR],by decide⟩ 7 rfl (by decide) gs 7 252 253 #[.pointer (some ⟨gt,0,none⟩)] #[] (.func (.func 250) #[] #[]) (mayR (natsI (numsR b))) (dsR (natsI (numsR b)))
  (by rw[Zm];exact infoThR) (wU _) hs hN (fun _ _=>rfl) (fun _ _=>rfl) ?_ ?_
 .intro W gl c hc hW hr;subst hc;exact ZU _ (by show(natsI (numsAt b 1 _)).length=7;simp[natsI,zC,szR]) (qXv _) (by decide) ((uuo (S:=fun _=>False) hW).cellv hv (fun h=>h)) (hB.below hW) hr
 .intro _ W gl c hc hW hr;subst hc;exact El _ (by show(natsI (numsAt b 1 _)).length=7;simp[natsI,zC,szR]) hr
theorem QB{w:World}(hN:Nib w)(b:Bk)(hb:b.length=64):
  Calls Tryz.prog 107 #[.agg (bkC b).toArray] w (YI w b):=by
 have HN:=qqh hN;have Hb:=qqh hb;clear hN hb;go_enter Tryz.func107,Tryz.ntmps107
 go_wp2_with fail
 change Code.wp _ _ _ _ ((w.alloc (.cells (bkC b).toArray 54)).alloc (.cells zeroR.toArray 101))
 have hr:((w.alloc (.cells (bkC b).toArray 54)).alloc (.cells zeroR.toArray 101)).rangeAt w.heap.size 0 (bkC b):=qYp (zg (zc w _ rfl)) _;have hg:((w.alloc (.cells (bkC b).toArray 54)).alloc (.cells zeroR.toArray 101)).heap[w.heap.size+1]?=some (.cells zeroR.toArray 101):=zc _ _ (by simp);have hu:Upd (fun _=>False) w ((w.alloc (.cells (bkC b).toArray 54)).alloc (.cells zeroR.toArray 101)):=((uur _ w).alloc _).alloc _;generalize (w.alloc (.cells (bkC b).toArray 54)).alloc (.cells zeroR.toArray 101)=w2 at*;have hb2:Below w.heap.size w w2:=Upd.below hu;refine qZj (S:=fun W=>W.rangeAt w.heap.size 0 (bkC b)) (by kernel_rfl) (by rw[qYq];exact hr) (fun hHeld=>?_);refine Wl.l 1 (fun w h=>h) Tryz.underlying54 (zt _ Hb.out) hHeld ?_;refine Wl.r 0 (fun K hK=>?_);go_simp
 refine(uY _).mono ?_;rintro e w3 ⟨gs,gt,rfl,hF,hb3⟩;have hb3':Below w2.heap.size w2 w3:=yg hb3;refine hK.o _ _ (Below.range hb3 hHeld) (fun hHeld2=>?_);clear hK K;refine Wl.r 2 (fun K hK=>?_);go_simp
 refine(Uq hF ((HN.o.keep hu (fun h=>h)).below hb3') b Hb.out).mono ?_;rintro e w4 ⟨⟨rs,hr1,hr2,rfl⟩,hb4⟩;have hb4':Below w2.heap.size w2 w4:=hb3'.trans (hb4.mono hb3'.size);have hg4:=(hb4'.block _ (zd hg)).trans hg;have hth:w4.there (w.heap.size+1) 0 7:=fun j hj=>by
  rw[za hg4,zf hg4];exact⟨by rw[qYe,qxe (by rw[qXm];exact hj)];rfl,rfl⟩
 have hrl:rs.length=7/\∀v∈rs,v.oneCell'=true:=by
  cases hk:okR b with
  |true=>rw[hr1 hk];exact⟨Zm _,wU _⟩
  |false=>rw[hr2 hk];exact⟨rfl,qxw.1 (by simpa using zR_one:zeroR.all (·.oneCell')=true)⟩
 have hst:w4.there (w.heap.size+1) 0 rs.toArray.size:=by rw[show rs.toArray.size=7 by simpa using hrl.1];exact hth
 have hst2:w4.there (w.heap.size+1) 0 rs.length:=by rw[hrl.1];exact hth
 have hsz2:(Tryz.prog.info? 101).map (·.size)=some rs.toArray.size:=by rw[show rs.toArray.size=7 by simpa using hrl.1];exact infoThR
 have hsz3:(Tryz.prog.info? 101).map (·.size)=some rs.length:=by rw[hrl.1];exact infoThR
 have hU5:Below w.heap.size w (w4.setCells (w.heap.size+1) 0 rs):=zj (hb2.trans (hb4'.mono hu.size)) (zp w4 (w.heap.size+1) 0 _) (qXv _) (fun k e=>by omega);refine hK.o _ _ (Below.range hb4 hHeld2) (fun hHeld3=>?_);clear hK K;refine Wl.i [3,4] ?_;iterate 2 refine Wl.t hHeld3 ?_
 refine Wl.o ?_;refine Wl.r 5 (fun K hK=>?_);rw[if_pos (by rfl)];refine qZk _ _ _ rfl _ _ (List.toArray _) rfl rfl (hst) (hsz2) (qYu hrl.2) ?_;simp only[Act.put,qXi];refine hK.o _ _ ((zp w4 (w.heap.size+1) 0 rs).range hHeld3 (by omega)) (fun hHeld4=>?_);clear hK K;refine Wl.r 6 (fun K hK=>?_);go_simp
 refine hK.o _ _ (hHeld4) (fun _=>?_);clear hK K;refine Wl.d ?_;have HE:=Y5 hU5 hst2 hsz3 hr1 hr2;clear hst hst2 hsz2 hsz3 hU5 hth hg4 hb4 hb4' hb3 hb3' hHeld hHeld2 hHeld3 hHeld4 hF hr hg hu hb2 hr1 hr2 hrl;go_wp2
 exact qYw (zn rfl _ _ (w.heap.size+1) 0 rs _ rfl (qYr _ _ _ _ HE.o.2.1) Tryz.underlying101 rfl HE.o.2.2.1) rfl ⟨⟨rs,HE.o.2.2.2.1,HE.o.2.2.2.2,rfl⟩,HE.o.1⟩
def YJ(n k:Nat)(b:Bk):Bool:=okR b&&(decide (((numsR b).getD 0 0-1)%n=k)&&decide ((numsR b).getD 1 0=((numsR b).getD 0 0-1)/n))
def scL(n k:Nat)(b:Bk):List (List Nat):=if YJ n k b then[numsR b]else[]
def scanTo(F:List Bk)(O:List (Nat×Bk))(base n:Nat):Nat->List (List Nat)
 |0=>[]
 |k+1=>scanTo F O base n k++scL n k (curB F O (base+k))
def recCs(r:List Nat):List Value:=dsR (natsI r)
theorem xZ(F:List Bk)(O:List (Nat×Bk))(base n:Nat):∀k,(scanTo F O base n k).length<=k
 |0=>qXv _
 |k+1=>by
  have:=xZ F O base n k;rw[scanTo,qzd];unfold scL;split<;>simp<;>omega
theorem qI{b:Bk}(h:okR b=true):1<=(numsR b).getD 0 0/\(numsR b).getD 0 0<=1099511627776/\(numsR b).getD 1 0<=1099511627776/\(numsR b).getD 2 0<=1/\(numsR b).getD 3 0<=4095/\(numsR b).getD 4 0<=1023/\(numsR b).getD 5 0<=1/\(numsR b).getD 6 0<=4294967295:=by
 unfold okR okGet at h;simp only[qxo]at h;have hm:=h.2.2.2;unfold mayR at hm;rw[qxo]at hm;have hl:(natsI (numsR b)).length=7:=by simp[natsI,numsR,zC,szR]
 have hw:=hm.1;have e:∀i (hi:i<(natsI (numsR b)).length),(natsI (numsR b))[i]=((numsR b).getD i 0:Nat):=fun i hi=>by
  simp only[natsI,qyy];rw[qyh,qyn (by simpa[natsI]using hi)];rfl
 have w0:=zI hw (i:=0) (by decide) (by omega);have w1:=zI hw (i:=1) (by decide) (by omega);have w2:=zI hw (i:=2) (by decide) (by omega);have w3:=zI hw (i:=3) (by decide) (by omega);have w4:=zI hw (i:=4) (by decide) (by omega);have w5:=zI hw (i:=5) (by decide) (by omega);have w6:=zI hw (i:=6) (by decide) (by omega);rw[e]at w0 w1 w2 w3 w4 w5 w6;simp only[bndR,qyx,qyw]at w0 w1 w2 w3 w4 w5 w6;omega
theorem En{b:Bk}(h:okR b=false):¬cdR b=0:=by
 unfold okR at h;unfold cdR yK;rw[h];split
 .next h=>cases h
 .split<;>decide
theorem Eo{b:Bk}(h:okR b=true):cdR b=0:=by
 unfold okR at h;unfold cdR yK;rw[h];rfl
theorem yi(ns:List Nat)(i:Nat):(natsI ns).getD i 0=(ns.getD i 0:Nat):=by
 simp only[natsI,qyh,qyq];cases ns[i]?<;>rfl
theorem WR:∃i z,Tryz.prog.info? 101=some i/\i.zero=some z/\z.cells.size=7/\i.size=7/\i.bytes=56:=by
 have h:(Tryz.prog.info? 101).map (fun i=>(i.zero.map (·.cells.size),i.size,i.bytes))=some (some 7,7,56):=by kernel_rfl
 obtain⟨i,hi,he⟩:=qYi.1 h;simp only[qYk]at he;obtain⟨z,hz,hz2⟩:=qYi.1 he.1;exact⟨i,z,hi,hz,hz2,he.2.1,he.2.2⟩
def ScI(D:Nat->Prop)(w0:World)(b p4:Nat)(F:List Bk)(O:List (Nat×Bk))(L:List (List Nat))(W:World):Prop:=
 Upd (fun j=>D j\/j=p4) w0 W/\∃v S1,W.heap[p4]?=some (.cells #[v] 23 (0,0))/\Sl W 101 7 v L.length (L.flatMap recCs)/\From w0.heap.size v/\
  Dv S1 W b F O []/\(∀j,S1 j->D j)/\(∀j,S1 j->j<W.heap.size)/\∀g,v.ownBlock=some g->¬S1 g
theorem ScI.new{D:Nat->Prop}{w0 W W':World}{b p4:Nat}{F:List Bk}{O:List (Nat×Bk)}{L:List (List Nat)}(h:ScI D w0 b p4 F O L W)(hu:Upd (fun _=>False) W W'):ScI D w0 b p4 F O L W':=by
 obtain⟨h1,v,S1,h2,h3,h4,h5,h6,h7,h8⟩:=h;exact⟨h1.trans (hu.mono (fun _ _ h=>h.elim)),v,S1,hu.blockv h2,h3.keep hu (fun _ _ h=>h),h4,h5.keep hu (fun _ _ h=>h),h6,fun j hj=>qXy (h7 j hj) hu.size,h8⟩
theorem AN{D:Nat->Prop}{w0 W:World}{b p1 p2 p3 p4:Nat}{F:List Bk}{O:List (Nat×Bk)}{base n k:Nat}{L:List (List Nat)}(h:ScI D w0 b p4 F O L W)(hD:∀j,w0.heap.size<=j->D j)(h4:p4<w0.heap.size/\¬D p4)
  (h1:w0.cell? ⟨p1,0,none⟩=some (.pointer (some ⟨b,0,none⟩))/\¬D p1/\p1≠p4) (h2:w0.cell? ⟨p2,0,none⟩=some (.int .i64 (n:Int))/\¬D p2/\p2≠p4) (h3:w0.cell? ⟨p3,0,none⟩=some (.int .i64 (base:Int))/\¬D p3/\p3≠p4)
  (hk:k<n) (hn:n<=1024) (hbn:base+n<=F.length) (hL:L.length<=1024) (hN:Nib w0) (hND:¬D 0/\0≠p4):
  Calls Tryz.prog 106 #[.int .i64 ((base:Int)+(k:Int)),.pointer (some ⟨p1,0,none⟩),.pointer (some ⟨p2,0,none⟩),.pointer (some ⟨p3,0,none⟩),.pointer (some ⟨p4,0,none⟩)] W fun e W'=>
   e=.returned (.int .i64 0)/\ScI D w0 b p4 F O (L++scL n k (curB F O (base+k))) W':=by
 obtain⟨hu,v,S1,hcell,hsl,hf,hd,hs1,hs2,hs3⟩:=h;have hfl:=hd.good.fl;have c1:W.cell? ⟨p1,0,none⟩=some (.pointer (some ⟨b,0,none⟩)):=hu.cellv h1.1 (fun h=>h.elim h1.2.1 h1.2.2);have hNW:Nib W:=hN.keep hu (fun h=>h.elim hND.1 hND.2);have HR:=qqh (xu (S:=fun j=>S1 j\/W.heap.size<=j) (hd.wide (fun _ h=> .inl h)) (fun _ h=> .inr h) (base+k) (by omega));rw[show((base+k:Nat):Int)=(base:Int)+(k:Int) by simp]at HR;have H:=Y14 hu hcell hsl hf hd hs1 hs2 hs3 hNW hD h4 h1 h2 h3;clear hu hcell hsl hf hd hs1 hs2 hs3 hNW hD h4 h1 h2 h3 hN;go_enter Tryz.func106,Tryz.ntmps106
 go_wp2_with fail
 refine HR.o.mono ?_;rintro e W2 ⟨y,cd,rfl,hy,hcd,hyl,hd2,hu2⟩;have hcd0:cd=0:=by rw[hcd];rfl
 have hyc:y=curB F O (base+k):=by rw[hy];rfl
 subst hcd0;obtain⟨W3,hW3⟩:=qqe (W2.alloc (.cells (bkC y).toArray 54));have hu3:Upd (fun _=>False) W2 W3:=by rw[hW3];exact(uur _ W2).alloc _
 have g3:W3.heap[W2.heap.size]?=some (.cells (bkC y).toArray 54 (0,0)):=by rw[hW3];exact zc W2 _ rfl
 have r3:=zg g3;obtain⟨q,hq⟩:=qqe (W2.heap.size);rw[<-hq]at r3;have hy64:(bkC y).length=64:=by rw[zo,hyl]
 have hsz:=zt y hyl;have hw3:W.heap.size<=W3.heap.size:=qXx hu2.size hu3.size;have hNib3:Nib W3:=(H.o.2.2.2.2.2.2.2.2.1.keep hu2 (fun h=>by
  rcases h with h|h
  .exact hND.1 (H.o.2.2.2.2.2.1 _ h)
  .have:=H.o.2.2.2.2.2.2.2.2.1.lt;omega)).keep hu3 (fun h=>h)
 have HG:=qqh (QB hNib3 y hyl);have HW3:=Y2 hW3 hq;have H2:=Y5 hd2 hu2 hu3 hyc hw3;clear hd2 hu2 hu3 hyc hw3 hW3 hq g3 hNib3 hy hcd;go_upto_region 4 with(first
  |(refine zk rfl _ _ _ rfl _ _ (bkC y) rfl rfl (by rw[hy64];rfl) hsz (zv y) ?_)
  |fail)
 rw[<-HW3.o.1,<-HW3.o.2];go_wp2_with (first
  |(refine qZg rfl _ _ rfl _ _ rfl _ _ r3 Tryz.underlying54 rfl hsz ?_)
  |fail)
 refine HG.o.mono ?_;rintro e W4 ⟨⟨rs,hr1,hr2,rfl⟩,hb4⟩;have hrl:rs.length=7/\∀v∈rs,v.oneCell'=true:=by
  cases hk:okR y with
  |true=>rw[hr1 hk];exact⟨Zm _,wU _⟩
  |false=>rw[hr2 hk];exact⟨rfl,qxw.1 (by simp[zeroR,Value.oneCell']:zeroR.all (·.oneCell')=true)⟩
 obtain⟨W5,hW5⟩:=qqe (W4.alloc (.cells rs.toArray 101));have hu5:Upd (fun _=>False) W3 W5:=by rw[hW5];exact(uuo hb4).alloc _
 have g5:W5.heap[W4.heap.size]?=some (.cells rs.toArray 101 (0,0)):=by rw[hW5];exact zc W4 _ rfl
 obtain⟨M,hM⟩:=qqe (W4.heap.size);rw[<-hM]at g5;have hz5:W5.heap.size=M+1:=by rw[hW5,hM];simp
 have HW5:=Y3 hW5 hM hrl;obtain⟨hd2,hu2,hu3,hyc,hw3⟩:=H2.o;obtain⟨hu,hcell,hsl,hf,hd,hs1,hs2,hs3,hNW,hD,h4,h1,h2,h3⟩:=H.o;have hU25:Upd (fun _=>False) W2 W5:=hu3.trans hu5;have hlW:=hu.size;have hS4:¬(S1 p4\/W.heap.size<=p4):=fun h=>h.elim (fun h=>h4.2 (hs1 _ h)) (fun h=>by omega);have hcell5:=hU25.blockv ((hu2.block p4 (zd hcell) hS4).trans hcell);have hsl5:=(hsl.keep hu2 (fun g hg h=>h.elim (hs3 g hg) (fun h=>by have:=hsl.lt hg;omega))).keep hU25 (fun _ _ h=>h);have hU5:Upd (fun j=>D j\/j=p4) w0 W5:=(hu.trans (hu2.mono (fun j _ h=> .inl (h.elim (hs1 j) (fun h=>hD j (by omega)))))).trans (hU25.mono (fun _ _ h=>h.elim));have hd5:∃S2,Dv S2 W5 b F O []/\(∀j,S2 j->D j)/\(∀j,S2 j->j<W5.heap.size/\j≠M)/\∀g,v.ownBlock=some g->¬S2 g:=by
  refine⟨fun j=>(S1 j\/W.heap.size<=j)/\j<W2.heap.size,(hd2.shrink (fun j h1 h2=>⟨h1,h2⟩)).keep hU25 (fun _ _ h=>h),fun j hj=>hj.1.elim (hs1 j) (fun h=>hD j (by omega)),fun j hj=>?_,fun g hg hs=>hs.1.elim (hs3 g hg) (fun h=>by have:=hsl.lt hg;omega)⟩;have:=hU25.size;have:=hu3.size;have:=hb4.size;exact⟨by omega,by omega⟩
 obtain⟨S2,d5,e1,e2,e3⟩:=hd5;have no5:ScI D w0 b p4 F O L W5:=⟨hU5,v,S2,hcell5,hsl5,hf,d5,e1,fun j hj=>(e2 j hj).1,e3⟩
 have l2:W5.cell? ⟨p2,0,none⟩=some (.int .i64 (n:Int)):=hU5.cellv h2.1 (fun h=>h.elim h2.2.1 h2.2.2);have l3:W5.cell? ⟨p3,0,none⟩=some (.int .i64 (base:Int)):=hU5.cellv h3.1 (fun h=>h.elim h3.2.1 h3.2.2);have l4:=za hcell5 0;have f4:=zf hcell5 0;have lp2:=qYn W5 _ l2;have lp3:=qYn W5 _ l3;have lp4:=zd hcell5;have HB:=Y11 no5 hcell5 hsl5 hU5 d5 e1 e2 e3 hf hlW h4;have hyc':=qqh hyc;clear hd2 hu2 hu3 hyc hw3 hu hcell hsl hf hd hs1 hs2 hs3 hNW hD h4 h1 h2 h3 hU25 hlW hS4 hcell5 hsl5 hU5 d5 e1 e2 e3 no5 hu5 hb4 hW5 hM r3 c1;go_upto_region 5 with(first
  |(refine zk rfl _ _ _ rfl _ _ rs rfl rfl (by rw[HW5.o.2.2.1];rfl) (by rw[HW5.o.2.2.1];exact infoThR) HW5.o.2.2.2 ?_)
  |fail)
 rw[<-HW5.o.1,<-HW5.o.2.1];cases hok:okR y with
 |false=>
  have q1:=En hok;have hsc:scL n k (curB F O (base+k))=[]:=by rw[<-hyc'.out];unfold scL YJ;rw[hok];rfl
  have HS:=qqh hsc;generalize cdR y=cdd at*;have q2:(cdd==0)=false:=by simpa using q1
  clear hok hsc hr1 hr2 g5
  go_quiet(fail)
  go_wp2_with fail
  go_ret
  refine⟨rfl,?_⟩;rw[HS.o,qxy];exact HB.o.1.new ((uur (fun _=>False) W5).drewN nq)
 |true=>
  rw[Eo hok];obtain⟨b1,b2,b3,-⟩:=qI hok;rw[hr1 hok]at g5 hrl;have m0:W5.cell? ⟨M,0,none⟩=some (.int .i64 ((numsR y).getD 0 0:Nat)):=by rw[za g5 0];show some (Value.int .i64 ((natsI (numsR y)).getD 0 0))=_;rw[yi]
  have m1:W5.cell? ⟨M,1,none⟩=some (.int .i64 ((numsR y).getD 1 0:Nat)):=by rw[za g5 1];show some (Value.int .i64 ((natsI (numsR y)).getD 1 0))=_;rw[yi]
  have hsc:scL n k (curB F O (base+k))=if decide (((numsR y).getD 0 0-1)%n=k)&&decide ((numsR y).getD 1 0=((numsR y).getD 0 0-1)/n)then[numsR y]else[]:=by rw[<-hyc'.out];unfold scL YJ;rw[hok];rfl
  have HS:=qqh hsc;have rM:=zg g5;have hrr:rs=recCs (numsR y):=hr1 hok;have HRR:=Y2 hrr rM;clear hok hsc hr1 hr2 g5 hrl rM hrr;generalize (numsR y).getD 0 0=a0 at*;generalize (numsR y).getD 1 0=a1 at*;obtain⟨p,rfl⟩:∃p,a0=p+1:=⟨a0-1,by omega⟩
  simp only[Nat.add_sub_cancel]at HS;have hp1:(p:Int)<=1099511627776:=by omega
  have hp2:(0:Int)<=(p:Int):=by omega
  have hwp:IntKind.i64.wrap (p:Int)=(p:Int):=qxv _ (by omega);have hwk:IntKind.i64.wrap (k:Int)=(k:Int):=qxv _ (by omega);have hk1:(k:Int)<=1024:=by omega
  have hk2:(0:Int)<=(k:Int):=by omega
  have hn0:¬n=0:=by omega
  have hw2:IntKind.i64.wrap ((base:Int)+(k:Int)-(base:Int))=(k:Int):=by
   rw[show(base:Int)+(k:Int)-(base:Int)=(k:Int) by omega];exact qxv _ (by omega)
  have ht:(p:Int).tmod (n:Int)=((p%n:Nat):Int):=(Int.ofNat_tmod p n).symm;have hd:(p:Int).tdiv (n:Int)=((p/n:Nat):Int):=by rw[Int.tdiv_eq_ediv_of_nonneg (by omega),<-Int.natCast_ediv]
  have hdl:p/n<=p:=Nat.div_le_self _ _;generalize p%n=pm at*;generalize p/n=pd at*;have hd2:IntKind.i64.wrap (pd:Int)=(pd:Int):=qxv _ (by omega);clear hdl;by_cases hc0:pm=k
  .subst hc0;have q1:((pm:Nat):Int)==(pm:Int):=by simp
   by_cases hc1:a1=pd
   .subst hc1;rw[qYy rfl,qYy rfl]at HS;replace HS:Hid (scL n pm (curB F O (base+pm))=[numsR y]):=HS
    go_quiet(fail)
    clear hw2 ht hd hd2;have hud:=(uur (fun _=>False) W5).drewN nq;generalize W5.drewN nq=W6 at*;obtain⟨no5,hcell5,hsl5,hU5,d5,e1,e2,e3,hf,hlW,h4⟩:=HB.o;have g6:=hud.blockv hcell5;have c6:=za g6 0;have f6:=zf g6 0;have lt6:=zd g6;have r5:W5.rangeAt M 0 rs:=by rw[HRR.o.1];exact HRR.o.2
    have r6:=hud.range r5 (fun h=>h);clear r5;have hsl6:=hsl5.keep hud (fun _ _ h=>h);have hrl:rs.length=7:=HW5.o.2.2.1;have hr1:=HW5.o.2.2.2;have hri:(Tryz.prog.info? 101).map (·.size)=some rs.length:=by rw[hrl];exact infoThR
    obtain⟨ir,zr,hir,hzr,hz7,hi7,hi56⟩:=WR;have HI:=Y5 hir hzr hz7 hi7 hi56;have HF:=Y5 hsl6 hrl hr1 hri r6;have HUD:=Y2 hud g6;have hm1:Hid (L.length+1<=maxLen):=by show _<=_;unfold maxLen;omega
    have hm2:Hid ((L.length+1)*56<=140737488355328):=by show _<=_;omega
    clear no5 hcell5 hsl5 hU5 d5 e1 e2 e3 hf hlW h4 g6 hsl6 hrl hr1 hri r6 hud l2 l3 l4 f4 m0 m1 hir hzr hz7 hi7 hi56 q1;go_wp2_with (first
     |(refine qZg rfl 101 _ rfl _ _ rfl _ _ HF.o.2.2.2.2 Tryz.underlying101 rfl HF.o.2.2.2.1 ?_)
     |(refine xz rfl 23 101 _ rfl 7 (by decide) Tryz.underlying23 ⟨ir,zr,HI.o.1,HI.o.2.1,HI.o.2.2.1,HI.o.2.2.2.1⟩ (by decide) rs rfl HF.o.2.1 ?_)
     |(at_builtin;refine zP rfl _ _ 23 rfl ir zr 56 Tryz.underlying23 HI.o.1 HI.o.2.1 HI.o.2.2.2.1 HI.o.2.2.2.2 HI.o.2.2.1 (by decide) rfl HF.o.1 rs rfl HF.o.2.1 HF.o.2.2.1 hm1.out hm2.out ?_;intro v' w7 hs7 hu7 hb7;obtain⟨ao',cc',rfl⟩:=hs7.rd.nil_iff;refine Stop.i ?_)
     |fail)
    obtain⟨no5,hcell5,hsl5,hU5,d5,e1,e2,e3,hf,hlW,h4⟩:=HB.o;obtain⟨hud,g6⟩:=HUD.o;have hv4:v.ownBlock≠some p4:=fun e=>by
     have:=hf p4 e;omega
    have g7:=(hu7.block p4 lt6 (fun h=>hv4 h)).trans g6;have hcs:=zh g7 0 (.slice ao' (L.length+1) cc');have hus:=zi w7 p4 0 (.slice ao' (L.length+1) cc');have c7:=za g7 0;have f7:=zf g7 0;obtain⟨w8,hw8⟩:=qqe (w7.setCell ⟨p4,0,none⟩ (.slice ao' (L.length+1) cc'));rw[<-hw8]at hcs hus;have hb7':∀g,(Value.slice ao' (L.length+1) cc').ownBlock=some g->v.ownBlock=some g\/W6.heap.size<=g:=fun g hg=>by
     rcases hb7 with e|⟨g2,e,hge⟩
     .rw [e]at hg;exact .inl hg
     .rw [e]at hg;cases hg;exact .inr hge
    have hDn:=H.o.2.2.2.2.2.2.2.2.2.1;have h65:=hud.size;have hFIN:ScI D w0 b p4 F O (L++[numsR y]) w8:=by
     have hfv:From w0.heap.size (.slice ao' (L.length+1) cc'):=fun g hg=>by
      rcases hb7' g hg with h|h
      .exact hf g h
      .have:=hU5.size;omega
     refine⟨((hU5.trans (hud.mono (fun _ _ h=>h.elim))).trans (hu7.mono (fun j _ h=> .inl (hDn j (hf j h))))).trans (hus.mono (fun j _ h=> .inr h)),_,S2,hcs,?_,hfv,?_,e1,fun j hj=>?_,fun g hg hs=>?_⟩
     .rw [qzd,qyf,qyg,List.flatMap_nil,qxy,<-HRR.o.1];exact hs7.keep hus (fun g hg e=>by
       have:=hfv g hg;omega)
     .exact ((d5.keep hud (fun _ _ h=>h)).keep hu7 (fun j hj h=>e3 j h hj)).keep hus (fun j hj e=>h4.2 (e▸e1 j hj))
     .have:=(e2 j hj).1;have:=hu7.size;have:=hus.size;omega
     .rcases hb7' g hg with h|h
      .exact e3 g h hs
      .have:=(e2 g hs).1;omega
    have HFN:=qqh hFIN;have HW8:=qqh hw8;clear no5 hcell5 hsl5 hU5 d5 e1 e2 e3 hf hlW h4 hud g6 hv4 g7 hcs hus hb7' hDn hFIN hs7 hu7 hb7 hw8;unfold Stop;go_wp2_with fail
    go_ret
    rw[<-HW8.o];refine⟨rfl,?_⟩;rw[HS.o];exact HFN.o
   .have q2:¬((a1:Nat):Int)=(pd:Int):=by omega
    rw[decide_eq_false hc1,Bool.and_false]at HS;replace HS:Hid (scL n pm (curB F O (base+pm))=[]):=HS;clear hc1
    go_quiet(fail)
    clear hw2 ht hd hd2;go_wp2_with fail
    go_ret
    refine⟨rfl,?_⟩;rw[HS.o,qxy];exact HB.o.1.new ((uur (fun _=>False) W5).drewN nq)
  .have q1:¬((pm:Nat):Int)=(k:Int):=by omega
   rw[decide_eq_false hc0]at HS;replace HS:Hid (scL n k (curB F O (base+k))=[]):=HS;clear hc0
   go_quiet(fail)
   clear hw2 ht hd hd2;go_wp2_with fail
   go_ret
   refine⟨rfl,?_⟩;rw[HS.o,qxy];exact HB.o.1.new ((uur (fun _=>False) W5).drewN nq)
end Go.Proofs.YtfhfbpmlnjdfoaaGreatDoor
