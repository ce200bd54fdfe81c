/- The iterator o -/
import Derived.RangeFuncNested
import Derived.RangeFuncBound
import Derived.RangeFuncCalls
import Derived.RangeFuncLeaves
import Derived.RangeFuncBox
import Derived.Shelf.Abstract
import Derived.OwnWalkIn
import Derived.TacticsInMore
import Derived.LoopNIn
import Derived.LoopIn
import Derived.Maps.AppendAt
import Derived.Test.YtfhfbpmlnjdfoaaGreatDoorG04
import Derived.RangeFuncWrites
import Derived.Laws.Bits64b
set_option maxRecDepth 100000
set_option maxHeartbeats 2000000
namespace Go.Proofs.YtfhfbpmlnjdfoaaGreatDoor
open Go Go.RowKit Go.Shelf Tryz
attribute [local go_sem] qYh
def xr(l:List Int)(st:Int)(k:Nat):List Nat:=(List.range k).filter fun i=>l[i]?.getD 0==st
abbrev pos(l:List Int)(st:Int):List Nat:=xr l st l.length
theorem vc{l:List Int}{st:Int}{k:Nat}(h:(l[k]?.getD 0==st)=true):xr l st (k+1)=xr l st k++[k]:=by simp[xr,List.range_succ,h]
theorem qw{l:List Int}{st:Int}{k:Nat}(h:(l[k]?.getD 0==st)=false):xr l st (k+1)=xr l st k:=by simp[xr,List.range_succ,h]
theorem Uo(l:List Int)(st:Int)(k:Nat):(xr l st k).length<=k:=by have:=List.length_filter_le (fun i=>l[i]?.getD 0==st) (List.range k);simpa[xr]using this
theorem ua(l:List Int)(st:Int){k m:Nat}(h:k<=m):xr l st k<+:xr l st m:=by
 induction m with
 |zero=>
  obtain rfl:k=0:=by omega
  exact List.prefix_rfl
 |succ m ih=>
  by_cases hk:k=m+1
  .subst hk;exact List.prefix_rfl
  .refine (ih (by omega)).trans ?_;by_cases hb:(l[m]?.getD 0==st)=true
   .rw [vc hb];exact List.prefix_append _ _
   .rw [qw (by simpa using hb)];exact List.prefix_rfl
theorem Zm(l:List Int)(st:Int){k m:Nat}(h:k<m)(hb:(l[k]?.getD 0==st)=true):(xr l st k).length<(xr l st m).length:=by
 have h1:=(ua l st (show k+1<=m by omega)).length_le;rw[vc hb]at h1;simp at h1;omega
theorem EV(F:Fence)(n:Nat)(h7:F.fn 227)(hro:F.round=none)(hn:1<=n)(S:Nat->Prop)(l Bs Bt b off cap:Nat)(zs:List Int)(st:Int)(hle:zs.length<=1024)(hb:¬S b)(hBt:¬S Bt)(J Jx:List Nat->World->Prop)
  (hY:∀pre (x:Nat) W,J pre W->pre.length<(pos zs st).length->YieldAt F (n-1) prog l #[.int .i64 (x:Int)] W fun e W'=>
   (e=.returned (.bool true)/\J (pre++[x]) W'/\Upd S W W')\/(e=.returned (.bool false)/\Jx (pre++[x]) W'))
  (W:World) (hbW:b<W.heap.size) (hBtW:Bt<W.heap.size) (hBs:W.cell? ⟨Bs,0,none⟩=some (.slice (some ⟨b,off,none⟩) zs.length cap)) (hct:W.cell? ⟨Bt,0,none⟩=some (.int .i64 st))
  (hc:∀j,j<zs.length->W.cell? ⟨b,off+j,none⟩=some (.int .i64 (zs[j]?.getD 0))) (h0:J [] W):
  CallsIn F n prog 227 #[.func (.yield l) #[] #[],.pointer (some ⟨Bs,0,none⟩),.pointer (some ⟨Bt,0,none⟩)] W fun e W'=>(∃v,e=.returned v)/\
   ((∃ys,ys=pos zs st/\J ys W')\/(∃pre,pre<+:pos zs st/\Jx pre W')):=by
 refine callsIn_of_wp func227 rfl h7 ?_ hro;simp only[ntmps227,qXm,qze,qzh,Nat.reduceAdd,Nat.reduceSub,qxi,qxj,qXg,qxz,qzz,qya]
 gi_wp2
 gi_loopw [8] (fun i wr=>∃k:Nat,k<=zs.length/\i=.int .i64 k/\J (xr zs st k) wr/\Upd S W wr)
  (fun i _=>zs.length-(intOf i).toNat)
 case atStart=>exact⟨0,qYf _,rfl,h0,uur _ _⟩
 case round=>
  obtain⟨k,hk,rfl,hJs,hnx⟩:=hrel;have hct':wr.cell? ⟨Bt,0,none⟩=some (.int .i64 st):=(hnx.cellAt hBtW hBt).trans hct;by_cases hlt:k<zs.length
  .have hcx':wr.cell? ⟨b,off+k,none⟩=some (.int .i64 (zs[k]?.getD 0)):=(hnx.cellAt hbW hb).trans (hc k hlt);have hgd:Hid (zs[k]?.getD 0=zs[k]):=by show _=_;simp[hlt]
   by_cases hq:(zs[k]==st)=true
   .have hqq:Hid ((zs[k]?.getD 0==st)=true):=by rw[hgd.out];exact hq
    obtain⟨fn,tmps,assign,body,hy,hR⟩:=hY _ k wr hJs (Zm zs st hlt hqq.out)
    gi_wp2
    refine hR.mono ?_;rintro e W3 (⟨rfl,hJ3,hk3⟩|⟨rfl,hJx3⟩)
    .gi_wp2
     go_roundw
     case rel=>exact⟨k+1,by omega,by simp,by rw[vc hqq.out];exact hJ3,hnx.trans hk3⟩
     case measure=>simp[intOf];omega
    .gi_wp2
     refine qYw (qZc rfl _ _ _) rfl ?_;exact⟨⟨_,rfl⟩,.inr ⟨_,by rw[<-vc hqq.out];exact ua zs st (by omega),hJx3⟩⟩
   .have hq':(zs[k]==st)=false:=by simpa using hq
    have hqq:Hid ((zs[k]?.getD 0==st)=false):=by rw[hgd.out];exact hq'
    clear hq
    gi_wp2
    refine⟨fun _ h=>(by cases h),?_⟩
    gi_wp2
    go_roundw
    case rel=>exact⟨k+1,by omega,by simp,by rw[qw hqq.out];exact hJs,hnx⟩
    case measure=>simp[intOf];omega
  .obtain rfl:k=zs.length:=by omega
   gi_wp2
   go_end0
   exact⟨⟨_,rfl⟩,.inl ⟨_,rfl,hJs⟩⟩
theorem sE(F:Fence)(n:Nat)(h7:F.fn 227)(hro:F.round=none)(hn:1<=n)(S:Nat->Prop)(Bs Bt b off cap:Nat)(zs:List Int)(st:Int)(w:World)(hle:zs.length<=1024)
  (hb:b<w.heap.size) (hBt:Bt<w.heap.size) (hBs:Bs<w.heap.size) (hbS:¬S b) (hBtS:¬S Bt)
  (hcs:w.cell? ⟨Bs,0,none⟩=some (.slice (some ⟨b,off,none⟩) zs.length cap)) (hct:w.cell? ⟨Bt,0,none⟩=some (.int .i64 st))
  (hc:∀j,j<zs.length->w.cell? ⟨b,off+j,none⟩=some (.int .i64 (zs[j]?.getD 0))):
  SeqStopsK F n prog 227 #[.pointer (some ⟨Bs,0,none⟩),.pointer (some ⟨Bt,0,none⟩)] (fun x:Nat=> #[Value.int .i64 (x:Int)]) (Upd S) (fun ys=>ys=pos zs st) (fun pre=>pre<+:pos zs st) (pos zs st).length w:=fun l J Jx W hW _ _ hY h0=>
 EV F n h7 hro hn S l Bs Bt b off cap zs st hle hbS hBtS J Jx hY W (qXy hb hW.size) (qXy hBt hW.size) ((hW.cell (p:=⟨Bs,0,none⟩) hBs).trans hcs) ((hW.cell (p:=⟨Bt,0,none⟩) hBt).trans hct) (fun j hj=>(hW.cell (p:=⟨b,off+j,none⟩) hb).trans (hc j hj)) h0
theorem Ys{A B:World}{row:Option Nat}{b:Nat}{t:TypeId}{v:Value}(hs:Boxed A b t v)(hg:A.grownBy B row)(hr:∀r,row=some r->∃o:Obj,A.heap[r]?=some o/\o.isCells=false):Boxed B b t v:=
 hs.kept hg (fun e=>by
  obtain⟨o,ho,hc⟩:=hr _ e.symm;rw[show A.heap[b]?=_ from hs]at ho;cases ho;simp[Obj.isCells]at hc)
theorem uH{S:Nat->Prop}{A B C:World}(h:Upd S A B)(h':Upd S B C):Upd S A C:=h.trans h'
theorem wH{S:Nat->Prop}{M:Nat}(hS:∀j,M<=j->S j)(W:World)(l:Nat)(o o':Obj)(hl:M<=l)(_:W.heap[l]?=some o)(_:o.isCells=false)(_:o.isWalk=false):Upd S W (W.putObj l o'):=
 ⟨rfl,rfl,rfl,by simp[World.putObj],fun k _ hk=>by
  have:k≠l:=fun e=>hk (hS k (by omega));simp only[World.putObj];rw[qxg (fun e=>this e.symm)]⟩
theorem Vh{w:World}{b:Nat}{v:Value}{l:List Int}(h:SlotsAt 327 w b v l)(st:Int)(hpos:0<l.length):
  Calls prog 159 #[vZ b,.int .i64 st] w fun e w'=>∃Bs Bt g off cap,e=.returned (.func (.func 227) #[] #[.pointer (some ⟨Bs,0,none⟩),.pointer (some ⟨Bt,0,none⟩)])/\
   (w.heap.size<=Bt/\w.heap.size<=g)/\Bs<w'.heap.size/\Bt<w'.heap.size/\g<w'.heap.size/\w'.cell? ⟨Bs,0,none⟩=some (.slice (some ⟨g,off,none⟩) l.length cap)/\w'.cell? ⟨Bt,0,none⟩=some (.int .i64 st)/\
   (∀j,j<l.length->w'.cell? ⟨g,off+j,none⟩=some (.int .i64 (l[j]?.getD 0)))/\Below w.heap.size w w':=by
 have hu0:Upd (fun _=>False) w (w.alloc (.cells #[.int .i64 st] 3)):=(uur _ _).alloc _;have h':=h.new hu0;have hc0:=za h'.str 0;simp at hc0;have HR:=qqh h'.sl.rd;have hle:=h.le;clear h h';go_enter func159,ntmps159
 go_wp2_with fail
 refine(Un HR.o (by omega)).mono ?_;rintro e w1 ⟨v',rfl,hs1,hf1,hb1⟩;obtain⟨g,off,cap,cur,rfl,hg,_,hcc⟩:=hs1.at hpos;have hlt:=zf hg;go_wp2
 go_ret
 have hsz:=hb1.size;simp at hsz;have hbox:w1.cell? ⟨w.heap.size,0,none⟩=some (.int .i64 st):=(hb1.cell (p:=⟨w.heap.size,0,none⟩) (by simp)).trans (by rw[za (zc _ _ rfl)];simp);have hA:=(uur (fun _=>False) w1).alloc (.cells #[.slice (some ⟨g,off,none⟩) l.length cap] 87);refine⟨w1.heap.size,w.heap.size,g,off,cap,rfl,⟨qXv _,by have:=hf1 g rfl;simp at this;omega⟩,by simp,by simp;omega,by simp;omega,?_,?_,fun j hj=>?_,?_⟩
 .rw [za (zc _ _ rfl)];simp
 .exact (hA.cellAt (by omega) (fun h=>h)).trans hbox
 .refine (hA.cellAt hlt (fun h=>h)).trans ?_;rw[za hg,hcc j _ (yt hj)];simp[hj]
 .exact zl (zl (qxl _ w) (Upd.new hu0 (uuo (S:=fun _=>False) hb1) (fun _ _ h=>h)) (qXv _) (fun _ h=>h.elim)) hA (qXv _) (fun _ h=>h.elim)
theorem Up{w:World}{b:Nat}{v:Value}{l:List Int}(h:SlotsAt 327 w b v l)(st:Int)(hpos:0<l.length):
  Calls prog 84 #[vZ b,.int .i64 st] w fun e w'=>e=.returned (.int .i64 (pos l st).length)/\Below w.heap.size w w':=by
 have h1:=h.new ((uur (fun _=>False) w).alloc (.cells #[.int .i64 0] 3));have hlen:Hid ((pos l st).length<=1024):=by have h1:=Uo l st l.length;have h2:=h.le;exact qXx h1 h2
 have hle:=h.le;clear h;refine(callsIn_wide (n:=3)).1 ?_;refine callsIn_of_wp_marks func84 rfl trivial ?_ rfl;simp only[ntmps84,qXm,qze,qzh,Nat.reduceAdd,Nat.reduceSub,qxi,qxj,qXg,qxz,qzz,qya]
 gi_wp2_with (refine⟨trivial,?_⟩;gi_at_call 159;refine(callsIn_wide.2 (Vh h1 st hpos)).mono ?_;rintro e w1 ⟨Bs,Bt,g,off,cap,rfl,hge,hBs,hBt,hg,hcs,hct,hcl,hb1⟩)
 have bO0:Boxed (w.alloc (.cells #[.int .i64 0] 3)) w.heap.size 3 (.int .i64 0):=Boxed.new w _ _;have bO:Boxed w1 w.heap.size 3 (.int .i64 0):=(hb1.block _ (by simp)).trans bO0;have hsz:=hb1.size;simp at hsz;have hB0:Below w.heap.size w w1:=zl ((qxl _ w).alloc (qXv _) _) (uuo (S:=fun _=>False) hb1) (qXv _) (fun _ h=>h.elim);refine wpIn_rangeFunc_ownF rfl (by omega) (gf:=227) (lb:= #[.pointer (some ⟨Bs,0,none⟩),.pointer (some ⟨Bt,0,none⟩)]) rfl trivial (enters_of func227 (by kernel_rfl) rfl)
  (sE Fence.wide _ trivial rfl (by omega) (fun j=>w1.heap.size<=j\/j=w.heap.size) Bs Bt g off cap l st w1 hle hg hBt hBs (by simp at hge;omega) (by simp at hge;omega) hcs hct hcl) uH (fun W l o o' hl=>wH (M:=w1.heap.size) (fun j h=> .inl h) W l o o' hl) (qxl _ _) (fun _=>rfl)
  (fun pre W=>Boxed W w.heap.size 3 (.int .i64 pre.length)/\Below w.heap.size w W)
  (fun _ _ _=>False)
  (OwnFrom.and (Own.from (I:=fun(s:List Nat) A=>Boxed A w.heap.size 3 (.int .i64 s.length)) (fun s A B row hs hg hr=>Ys hs hg hr) _) (ownFrom_below (qXv _) (by omega)))
  (fun _ _ _ _ _ hs _ _=>hs)
  ⟨bO,hB0⟩
  (fun x=>{tmps:= #[vZ b,Value.int IntKind.i64 st,undef,undef,Value.int IntKind.i64 0,
     Value.pointer (some {block:=w.heap.size,off:=0}),vZ b,Value.int IntKind.i64 st,
     Value.func (Fn.func 227) #[]
      #[Value.pointer (some {block:=Bs,off:=0}),Value.pointer (some {block:=Bt,off:=0})],
     .int .i64 x,undef,undef,undef],defers:=[]}) ?assign ?body ?done ?stop
 case assign=>
  intro l x W K hK
  gi_wp2
  simpa using hK
 case body=>
  rintro l pre x W ⟨hv,hB⟩ hlt;have hc:=hv.cell;have hf:=hv.frozen;have hn:(pre.length:Int)<1024:=by have:=hlen.out;omega
  gi_wp2
  rw[show((pre.length:Int)+1)=((pre++[x]).length:Int) by simp];exact⟨KeepsOthers.setCell _ _ _,(zj W _ _ _).mono (fun k _ hk=> .inr hk),hv.set _,hB.setCell (p:=⟨w.heap.size,0,none⟩) (qXv _) _⟩
 case done=>
  rintro D ys W hD rfl ⟨hv,hB⟩ hK;have hc:=hv.cell
  gi_wp2
  refine⟨by simp,.inl ⟨_,_,rfl,run_takeDeferred hK,?_⟩⟩;exact⟨_,results_tmp rfl _ _ _,rfl,hB.trans (belowK_b (w:=w) (qXv _) W D _ _ (by omega) hK rfl rfl)⟩
 case stop=>
  rintro D c pre W _ _ h _;exact h.elim
attribute [local go_sem] qYh
abbrev zaX(base:Nat){m:Nat}(x:{i:Nat//i<m}):Array Value:= #[.int .i64 (x.1:Int),.int .i64 ((base:Int)+(x.1:Int))]
theorem EW(n:Nat)(hn:1<=n)(S:Nat->Prop)(l Bm Bb base m:Nat)(hm:m<=4096)(hbs:base<=4096)(hBm:¬S Bm)(hBb:¬S Bb)(J Jx:List {i:Nat//i<m}->World->Prop)
  (hY:∀pre (x:{i:Nat//i<m}) W,J pre W->pre.length<m->YieldAt Fence.wide (n-1) prog l (zaX base x) W fun e W'=>
   (e=.returned (.bool true)/\J (pre++[x]) W'/\Upd S W W')\/(e=.returned (.bool false)/\Jx (pre++[x]) W'))
  (W:World) (hmW:Bm<W.heap.size) (hbW:Bb<W.heap.size) (hcm:W.cell? ⟨Bm,0,none⟩=some (.int .i64 m)) (hcb:W.cell? ⟨Bb,0,none⟩=some (.int .i64 base)) (h0:J [] W):
  CallsIn Fence.wide n prog 171 #[.func (.yield l) #[] #[],.pointer (some ⟨Bm,0,none⟩),.pointer (some ⟨Bb,0,none⟩)] W fun e W'=>(∃v,e=.returned v)/\
   ((∃ys:List {i:Nat//i<m},ys.map (·.1)=List.range m/\J ys W')\/(∃pre:List {i:Nat//i<m},pre.map (·.1)=List.range pre.length/\Jx pre W')):=by
 refine callsIn_of_wp func171 rfl trivial ?_ rfl;simp only[ntmps171,qXm,qze,qzh,Nat.reduceAdd,Nat.reduceSub,qxi,qxj,qXg,qxz,qzz,qya]
 gi_wp2
 gi_loopw [4] (fun i wr=>∃(k:Nat) (pre:List {i:Nat//i<m}),k<=m/\i=.int .i64 k/\pre.map (·.1)=List.range k/\J pre wr/\Upd S W wr)
  (fun i _=>m-(intOf i).toNat)
 case atStart=>exact⟨0,[],qYf _,rfl,rfl,h0,uur _ _⟩
 case round=>
  obtain⟨k,pre,hk,rfl,hpre,hJs,hnx⟩:=hrel;have hcm':wr.cell? ⟨Bm,0,none⟩=some (.int .i64 m):=(hnx.cellAt hmW hBm).trans hcm;have hcb':wr.cell? ⟨Bb,0,none⟩=some (.int .i64 base):=(hnx.cellAt hbW hBb).trans hcb;by_cases hlt:k<m
  .have hpl:pre.length=k:=by have:=congrArg List.length hpre;simpa using this
   obtain⟨fn,tmps,assign,body,hy,hR⟩:=hY pre ⟨k,hlt⟩ wr hJs (by omega);have b2:(k:Int)<(m:Int):=by omega
   gi_wp2
   refine hR.mono ?_;rintro e W3 (⟨rfl,hJ3,hk3⟩|⟨rfl,hJx3⟩)
   .gi_wp2
    go_roundw
    case rel=>exact⟨k+1,pre++[⟨k,hlt⟩],by omega,by simp,by simp[List.range_succ,hpre],hJ3,hnx.trans hk3⟩
    case measure=>simp[intOf];omega
   .gi_wp2
    refine qYw (qZc rfl _ _ _) rfl ?_;exact⟨⟨_,rfl⟩,.inr ⟨_,by simp[List.range_succ,hpre,hpl],hJx3⟩⟩
  .obtain rfl:k=m:=by omega
   gi_wp2
   go_end0
   exact⟨⟨_,rfl⟩,.inl ⟨_,hpre,hJs⟩⟩
theorem sF(n:Nat)(hn:1<=n)(S:Nat->Prop)(Bm Bb base m:Nat)(w:World)(hm:m<=4096)(hbs:base<=4096)(hmw:Bm<w.heap.size)(hbw:Bb<w.heap.size)(hmS:¬S Bm)(hbS:¬S Bb)
  (hcm:w.cell? ⟨Bm,0,none⟩=some (.int .i64 m)) (hcb:w.cell? ⟨Bb,0,none⟩=some (.int .i64 base)):
  SeqStopsK Fence.wide n prog 171 #[.pointer (some ⟨Bm,0,none⟩),.pointer (some ⟨Bb,0,none⟩)] (fun x:{i:Nat//i<m}=>zaX base x) (Upd S) (fun ys=>ys.map (·.1)=List.range m) (fun ys=>ys.map (·.1)=List.range ys.length) m w:=fun l J Jx W hW _ _ hY h0=>
 EW n hn S l Bm Bb base m hm hbs hmS hbS J Jx hY W (qXy hmw hW.size) (qXy hbw hW.size) ((hW.cell (p:=⟨Bm,0,none⟩) hmw).trans hcm) ((hW.cell (p:=⟨Bb,0,none⟩) hbw).trans hcb) h0
theorem tw(base m:Int)(w:World):
  Calls prog 98 #[.int .i64 base,.int .i64 m] w fun e w'=>e=.returned (.func (.func 171) #[] #[.pointer (some ⟨w.heap.size+1,0,none⟩),.pointer (some ⟨w.heap.size,0,none⟩)])/\
   w'=(w.alloc (.cells #[.int .i64 base] 3)).alloc (.cells #[.int .i64 m] 3):=by
 have hmf:=qqf;go_enter func98,ntmps98
 go_wp2
 go_ret
 exact⟨rfl,rfl⟩
theorem Qa{S:Nat->Prop}{w:World}{b:Nat}{F:List Bk}{O:List (Nat×Bk)}{P:List Int}(h:Dv S w b F O P)(base m:Nat)(h1:1<=m)(h2:base+m<=F.length):
  Calls prog 97 #[.pointer (some ⟨b,0,none⟩),.int .i64 (base:Int),.int .i64 (m:Int),.int .i64 1] w fun e w'=>e=.returned (.bool true)/\w=w':=by
 have hfl:=h.good.fl;have b1:¬((base:Int)>(F.length:Int)):=by omega
 have b2:(m:Int)<=((F.length:Int)-(base:Int)):=by omega
 have b3:¬((m:Int)<1):=by omega
 have b4:¬((base:Int)<0):=by omega
 have b5:0<=((F.length:Int)-(base:Int)):=by omega
 have q1:decide ((F.length:Int)<(base:Int))=false:=by simp;omega
 go_enter func97,ntmps97
 go_wp2_with (first
  |(go_at_call 47;refine(vV h).mono ?_;rintro e w' ⟨rfl,rfl⟩)
  |fail)
 go_ret
 exact⟨rfl,rfl⟩
attribute [local go_sem] qYh
def ST(w:World)(S:Nat->Prop):Prop:=∀j,S j->j<w.heap.size->∃cs t z,w.heap[j]?=some (.cells cs t z)
theorem zy{S:Nat->Prop}{w w':World}(hu:Upd S w w')(hS:ST w S):KeepsOthers w w':=
 ⟨hu.size,fun k o hk ho=>by
  have hl:=zf hk;refine(hu.block k hl (fun hs=>?_)).trans hk;obtain⟨cs,t,z,h⟩:=hS k hs hl;rw[hk]at h;cases h;simp[Obj.isCells]at ho⟩
theorem xk{S:Nat->Prop}{a w w':World}{row:Option Nat}(h:Upd S a w)(hg:w.grownBy w' row)(hr:∀r,row=some r->S r):Upd S a w':=
 h.trans (Upd.jz hg (fun g e _=>hr g e))
theorem XP{w w':World}{row:Option Nat}{j:Nat}{cs:Array Value}{t:TypeId}{z:Nat×Nat}(h:w.heap[j]?=some (.cells cs t z))(_hg:w.grownBy w' row)(hr:∀r,row=some r->∃o:Obj,w.heap[r]?=some o/\o.isCells=false):row≠some j:=fun e=>by
 obtain⟨o,ho,hi⟩:=hr j e;rw[h]at ho;cases ho;simp[Obj.isCells]at hi
theorem EX:(#[.int .u8 0,.int .u8 0,.int .u8 0,.int .u8 0,.int .u8 0,.int .u8 0,.int .u8 0,.int .u8 0,.int .u8 0,.int .u8 0,.int .u8 0,.int .u8 0,.int .u8 0,.int .u8 0,.int .u8 0,.int .u8 0,.int .u8 0,.int .u8 0,.int .u8 0,.int .u8 0,.int .u8 0,.int .u8 0,.int .u8 0,.int .u8 0,.int .u8 0,.int .u8 0,.int .u8 0,.int .u8 0,.int .u8 0,.int .u8 0,.int .u8 0,.int .u8 0,.int .u8 0,.int .u8 0,.int .u8 0,.int .u8 0,.int .u8 0,.int .u8 0,.int .u8 0,.int .u8 0,.int .u8 0,.int .u8 0,.int .u8 0,.int .u8 0,.int .u8 0,.int .u8 0,.int .u8 0,.int .u8 0,.int .u8 0,.int .u8 0,.int .u8 0,.int .u8 0,.int .u8 0,.int .u8 0,.int .u8 0,.int .u8 0,.int .u8 0,.int .u8 0,.int .u8 0,.int .u8 0,.int .u8 0,.int .u8 0,.int .u8 0,.int .u8 0]:Array Value)=(bkC zB).toArray:=by kernel_rfl
def Yl(base:Nat)(B:List Bk)(i:Nat):Nat×Bk:=(base+i,B.getD i zB)
def ckO(base m:Nat)(B:List Bk):List (Nat×Bk):=(List.range m).map (Yl base B)
theorem DvAt.cells{w:World}{b:Nat}{vf vo vp:Value}{F:List Bk}{O:List (Nat×Bk)}{P:List Int}(h:DvAt w b vf vo vp F O P):∀j,dvS b vf vo vp j->∃cs t,w.heap[j]?=some (.cells cs t (0,0)):=by
 have hs:∀{e:TypeId} {k n:Nat} {v:Value} {xs:List Value},Sl w e k v n xs->∀j,v.ownBlock=some j->∃cs t,w.heap[j]?=some (.cells cs t (0,0)):=by
  intro e k n v xs hsl j hj;rcases hsl with⟨-,⟨rfl,-⟩|⟨g,off,cap,cur,rfl,hg,-⟩⟩
  .cases hj
  .cases hj;exact⟨_,_,hg⟩
 rintro j (rfl|hj|hj|hj)
 .exact ⟨_,_,h.str⟩
 .exact hs h.fs j hj
 .exact hs h.os j hj
 .exact hs h.ps j hj
theorem Dv.grown{S:Nat->Prop}{w w':World}{row:Option Nat}{b:Nat}{F:List Bk}{O:List (Nat×Bk)}{P:List Int}(h:Dv S w b F O P)(hg:w.grownBy w' row)(hr:∀r,row=some r->∃o:Obj,w.heap[r]?=some o/\o.isCells=false):Dv S w' b F O P:=by
 obtain⟨vf,vo,vp,h,hS⟩:=h;refine⟨vf,vo,vp,h.keep (Upd.jz (S:=fun j=>row=some j) hg (fun g e _=>e)) (fun j hj e=>?_),hS⟩;obtain⟨cs,t,hc⟩:=h.cells j hj;obtain⟨o,ho,hi⟩:=hr j e;rw[hc]at ho;cases ho;simp[Obj.isCells]at hi
section
variable{F:Fence}{n:Nat}{P:Program}{ops:Array Oper}{rest:List Oper}{op:Oper}{a:Act}{w:World}{Q:Exit->Act->World->Prop}
theorem vD{K:Act->World->Prop}(ty:TypeId)(x:Operand)(ho:op.op=.load ty x)(b o:Nat)(hx:a.eval x=.pointer (some ⟨b,o,none⟩))(cs:List Value)(d:TypeDesc)(hc:w.rangeAt b o cs)
  (hu:P.underlying ty=some d) (hd:d.isRow=true) (hi:(P.info? ty).map (·.size)=some cs.length) (h:K (a.put op.dst (.agg cs.toArray)) w):op.wpIn F n P a w K Q:=by
 unfold Oper.wpIn;refine⟨by simp[Oper.about,ho],?_⟩;rw[Oper.semAt_plain F _ _ (by rw[ho];intro c hc';cases hc')];unfold execOp;simp only[ho,hx,Instr.loadAt,Instr.sureAddr,qYm,Sem.run_pure,qYl,run_loadVar_mid w b o ty cs d hc hu hd hi];exact h
theorem yI(hgd:op.guard=none)(ty:TypeId)(x:Operand)(ho:op.op=.load ty x)(b o:Nat)(hx:a.eval x=.pointer (some ⟨b,o,none⟩))(cs:List Value)(d:TypeDesc)(hc:w.rangeAt b o cs)
  (hu:P.underlying ty=some d) (hd:d.isRow=true) (hi:(P.info? ty).map (·.size)=some cs.length) (h:wpListIn F n P ops Q rest (a.put op.dst (.agg cs.toArray)) w):wpListIn F n P ops Q (op::rest) a w:=
 wpListIn_plain hgd fun _ hK=>vD ty x ho b o hx cs d hc hu hd hi (hK _ _ h)
theorem qx{K:Act->World->Prop}(ty:TypeId)(x y:Operand)(ho:op.op=.store ty x y)(b o:Nat)(cells:Array Value)(hx:a.eval x=.pointer (some ⟨b,o,none⟩))(hy:a.eval y=.agg cells)
  (ht:w.there b o cells.size) (hi:(P.info? ty).map (·.size)=some cells.size) (h1:cells.all (·.oneCell')=true)
  (h:K (a.put op.dst undef) (w.setCells b o cells.toList)):op.wpIn F n P a w K Q:=by
 unfold Oper.wpIn;refine⟨by simp[Oper.about,ho],?_⟩;rw[Oper.semAt_plain F _ _ (by rw[ho];intro c hc';cases hc')];unfold execOp;simp only[ho,hx,hy,Instr.storeAt,Instr.sureAddr,qYm,Sem.run_pure,qYl,run_storeVar_mid w b o ty cells ht hi h1];exact h
theorem vM(hgd:op.guard=none)(ty:TypeId)(x y:Operand)(ho:op.op=.store ty x y)(b o:Nat)(cells:Array Value)(hx:a.eval x=.pointer (some ⟨b,o,none⟩))(hy:a.eval y=.agg cells)
  (ht:w.there b o cells.size) (hi:(P.info? ty).map (·.size)=some cells.size) (h1:cells.all (·.oneCell')=true)
  (h:wpListIn F n P ops Q rest (a.put op.dst undef) (w.setCells b o cells.toList)):wpListIn F n P ops Q (op::rest) a w:=
 wpListIn_plain hgd fun _ hK=>qx ty x y ho b o cells hx hy ht hi h1 (hK _ _ h)
theorem xt(hgd:op.guard=none)(ty:TypeId)(x y:Operand)(ho:op.op=.store ty x y)
  (zs:Array Value) (t:TypeId) (vs:List Value) (hx:a.eval x=.pointer (some ⟨w.heap.size,0,none⟩)) (hy:a.eval y=.agg vs.toArray) (hz:zs.size=vs.length)
  (hi:(P.info? ty).map (·.size)=some vs.length) (h1:∀v∈vs,v.oneCell'=true)
  (h:wpListIn F n P ops Q rest (a.put op.dst undef) (w.alloc (.cells vs.toArray t))):wpListIn F n P ops Q (op::rest) a (w.alloc (.cells zs t)):=by
 refine vM hgd ty x y ho w.heap.size 0 vs.toArray hx hy (fun j hj=>?_) (by simpa using hi) (qYu h1) ?_
 .rw [za (zc w _ rfl),zg (zc w _ rfl)];simp at hj;exact⟨by rw[qYe,qxe (by omega)];rfl,rfl⟩
 .rw [List.toList_toArray,tr w t vs zs hz];exact h
end
end Go.Proofs.YtfhfbpmlnjdfoaaGreatDoor
namespace Go.Proofs.YtfhfbpmlnjdfoaaGreatDoor
open Go Go.RowKit Tryz
theorem Yt(ts te:TypeId)(k:Nat)(hk:0<k)(hu:prog.underlying ts=some (.slice te))(hinf:∃i z,prog.info? te=some i/\i.zero=some z/\z.cells.size=k/\i.size=k)(v:Value)(hv:v.cells.size=k)(hb:k<=1000)(w:World):
  (Instr.buildSlice ts 1 #[(0,v)]).run prog w=.ok (.slice (some ⟨w.heap.size,0,none⟩) 1 1) (w.alloc (.cells v.cells te)):=by
 obtain⟨i,z,hi,hz,hs,hsz⟩:=hinf;refine run_buildSlice w _ _ 1 _ _ i z hu hi hz (by rw[hsz];omega) (by rw[hsz];omega) ?_;obtain⟨a1,a2⟩:=yL 0 v.cells ((Array.range (1*i.size)).map (z.cells[·%z.cells.size]!));rw[show(#[(0,v)]:Array (Nat×Value)).toList=[(0,v)]from rfl];rw[xj _ _ 0 0 k v _ (by simp[hsz]) hv (by simp[hsz])];show some _=_
 congr 1
 apply qxd
 intro j;rw[a2 j];by_cases hj:j<k
 .rw [if_pos ⟨by omega,by omega,by simp[hsz];omega⟩];rfl
 .rw [if_neg (by omega),qxf (by simp[hsz];omega),qxf (by omega)]
theorem xu{ops:Array Oper}{rest:List Oper}{op:Oper}{a:Act}{w:World}{Q:Exit->Act->World->Prop}(hgd:op.guard=none)(ts te:TypeId)(p:Operand)(ho:op.op=.buildSlice ts 1 #[(0,p)])(k:Nat)(hk:0<k)
  (hu:prog.underlying ts=some (.slice te)) (hinf:∃i z,prog.info? te=some i/\i.zero=some z/\z.cells.size=k/\i.size=k) (hb:k<=1000) (cs:List Value) (hp:a.eval p=.agg cs.toArray) (hc:cs.length=k)
  (h:wpList prog ops Q rest (a.put op.dst (.slice (some ⟨w.heap.size,0,none⟩) 1 1)) (w.alloc (.cells cs.toArray te))):wpList prog ops Q (op::rest) a w:=by
 refine qZh hgd fun K' hK'=>?_;unfold Oper.wp;have hrun:=Yt ts te k hk hu hinf (.agg cs.toArray) (by simpa[Value.cells]using hc) hb w;simp only[execOp,ho,qzp,qzm,qzo,hp,qYm,hrun,qYl];exact hK' _ _ h
theorem zZ{ops:Array Oper}{rest:List Oper}{o:Oper}{a:Act}{w:World}{Q:Exit->Act->World->Prop}(hg:o.guard=none)(t:TypeId)(ho:o.op=.alloc t)(cs:Array Value)
  (hrun:∀w:World,(Instr.alloc t true (.tuple #[])).run prog w=.ok (.pointer (some ⟨w.heap.size,0,none⟩)) (w.alloc (.cells cs t)))
  (h:wpList prog ops Q rest (a.put o.dst (.pointer (some ⟨w.heap.size,0,none⟩))) (w.alloc (.cells cs t))):wpList prog ops Q (o::rest) a w:=by
 refine qZh hg fun K' hK'=>?_;unfold Oper.wp;simp only[execOp,ho,qYm,hrun,qYl];exact hK' _ _ h
theorem xZ(Z:Bk)(hZ:Z=zB):∀w:World,(Instr.build 54 #[]).run prog w=.ok (.agg (bkC Z).toArray) w:=by
 intro w;subst hZ;kernel_rfl
theorem yg{ops:Array Oper}{rest:List Oper}{op:Oper}{a:Act}{w:World}{Q:Exit->Act->World->Prop}(hgd:op.guard=none)(ho:op.op=.build 54 #[]){Z:Bk}
  (hrun:∀w:World,(Instr.build 54 #[]).run prog w=.ok (.agg (bkC Z).toArray) w)
  (h:wpList prog ops Q rest (a.put op.dst (.agg (bkC Z).toArray)) w):wpList prog ops Q (op::rest) a w:=by
 refine qZh hgd fun K' hK'=>?_;unfold Oper.wp;simp only[execOp,ho,qzp,qzo,qYm,hrun,qYl];exact hK' _ _ h
theorem vN(Z:Bk)(hZ:Z=zB):∀w:World,(Instr.alloc 54 true (.tuple #[])).run prog w=.ok (.pointer (some ⟨w.heap.size,0,none⟩)) (w.alloc (.cells (bkC Z).toArray 54)):=by
 intro w;subst hZ;kernel_rfl
theorem qy{P:Program}{ops:Array Oper}{o:Oper}{a:Act}{w:World}{K:Act->World->Prop}{Q:Exit->Act->World->Prop}{E:Prop}(hg:o.guard=none)(t:TypeId)(hop:o.op=.alloc t)(cs:Array Value)
  (hrun:∀w:World,(Instr.alloc t true (.tuple #[])).run P w=.ok (.pointer (some ⟨w.heap.size,0,none⟩)) (w.alloc (.cells cs t)))
  (hK:K (a.put o.dst (.pointer (some ⟨w.heap.size,0,none⟩))) (w.alloc (.cells cs t))):if Region.wanted o (yielded ops a.tmps)=true then Oper.wp P o a w K Q else E:=by
 have hw:Region.wanted o (yielded ops a.tmps)=true:=by simp[Region.wanted,hg]
 rw[if_pos hw];unfold Oper.wp;simp only[execOp,hop,qYm,hrun,qYl];exact hK
theorem wi(a b:Nat)(ha:a<4611686018427387904)(hb:b<4611686018427387904):bits .xor .i64 (a:Int) (b:Int)=((a^^^b:Nat):Int):=by
 have hx:a^^^b<2^62:=Nat.xor_lt_two_pow (by omega) (by omega);have h1:(BitVec.ofInt 64 (a:Int)).toNat=a:=by rw[qxm,qxn];exact qXz (by omega)
 have h2:(BitVec.ofInt 64 (b:Int)).toNat=b:=by rw[qxm,qxn];exact qXz (by omega)
 show IntKind.i64.wrap ((BitVec.ofInt 64 (a:Int)^^^BitVec.ofInt 64 (b:Int)).toNat:Int)=_;rw[BitVec.toNat_xor,h1,h2,IntKind.wrap_i64];omega
theorem ub(a b:Nat)(ha:a<4611686018427387904)(hb:b<4611686018427387904):bits .and .i64 (a:Int) (b:Int)=((a&&&b:Nat):Int):=by
 have hx:a&&&b<2^62:=Nat.and_lt_two_pow _ (by omega);have h1:(BitVec.ofInt 64 (a:Int)).toNat=a:=by rw[qxm,qxn];exact qXz (by omega)
 have h2:(BitVec.ofInt 64 (b:Int)).toNat=b:=by rw[qxm,qxn];exact qXz (by omega)
 show IntKind.i64.wrap ((BitVec.ofInt 64 (a:Int)&&&BitVec.ofInt 64 (b:Int)).toNat:Int)=_;rw[BitVec.toNat_and,h1,h2,IntKind.wrap_i64];omega
theorem Yu(a b:Nat)(ha:a<4611686018427387904)(hb:b<4611686018427387904):bits .or .i64 (a:Int) (b:Int)=((a|||b:Nat):Int):=by
 have hx:a|||b<2^62:=Nat.or_lt_two_pow (by omega) (by omega)
 have h1:(BitVec.ofInt 64 (a:Int)).toNat=a:=by rw[qxm,qxn];exact qXz (by omega)
 have h2:(BitVec.ofInt 64 (b:Int)).toNat=b:=by rw[qxm,qxn];exact qXz (by omega)
 show IntKind.i64.wrap ((BitVec.ofInt 64 (a:Int)|||BitVec.ofInt 64 (b:Int)).toNat:Int)=_;rw[BitVec.toNat_or,h1,h2,IntKind.wrap_i64];omega
def nibT:List Nat:=[0,274646895,549293790,820201905,1098587580,1361435347,1640403810,1905808397,2197175160,2460548119,2722870694,2987750089,3280807620,3553878443,3811616794,4084100981]
def nibC(i:Nat):Nat:=nibT.getD i 0
theorem Vi(i:Nat):nibC i<4294967296:=by
 unfold nibC nibT;by_cases h:i<16
 .have:i=0\/i=1\/i=2\/i=3\/i=4\/i=5\/i=6\/i=7\/i=8\/i=9\/i=10\/i=11\/i=12\/i=13\/i=14\/i=15:=by omega
  rcases this with rfl|rfl|rfl|rfl|rfl|rfl|rfl|rfl|rfl|rfl|rfl|rfl|rfl|rfl|rfl|rfl<;>decide
 .rw [qyh,qyo (by simp;omega)];decide
def stepC(s f:Nat):Nat:=(s/16)^^^nibC ((s^^^f)&&&15)
theorem qA{s f:Nat}(h:s<4294967296):stepC s f<4294967296:=by
 unfold stepC;exact Nat.xor_lt_two_pow (n:=32) (by omega) (Vi _)
def Vj(s:Nat)(b:UInt8):Nat:=stepC (stepC s (b.toNat&&&15)) (b.toNat/16)
theorem byteC_lt{s:Nat}{b:UInt8}(h:s<4294967296):Vj s b<4294967296:=qA (qA h)
def sumC(xs:List UInt8):Nat:=xs.foldl Vj 4294967295
theorem Uq(xs:List UInt8)(b:UInt8):sumC (xs++[b])=Vj (sumC xs) b:=by simp[sumC]
theorem Zn(xs:List UInt8):sumC xs<4294967296:=by
 have:∀(xs:List UInt8) (s:Nat),s<4294967296->xs.foldl Vj s<4294967296:=by
  intro xs
  induction xs with
  |nil=>intro s h;exact h
  |cons b xs ih=>intro s h;exact ih _ (byteC_lt h)
 exact this xs _ (by omega)
def crcC(xs:List UInt8):Nat:=sumC xs^^^4294967295
theorem ve(xs:List UInt8):crcC xs<4294967296:=Nat.xor_lt_two_pow (n:=32) (Zn xs) (by decide)
def lowB(n:Nat):Nat->List UInt8
 |0=>[]
 |k+1=>UInt8.ofNat n::lowB (n/256) k
theorem yj(n k:Nat):(lowB n k).length=k:=by
 induction k generalizing n with
 |zero=>rfl
 |succ k ih=>simp[lowB,ih]
def numB:List UInt8->Nat
 |[]=>0
 |b::l=>b.toNat+256*numB l
theorem Yv(n k:Nat)(h:n<256^k):numB (lowB n k)=n:=by
 induction k generalizing n with
 |zero=>simp at h;subst h;rfl
 |succ k ih=>
  simp only[lowB,numB];rw[ih (n/256) (by rw[Nat.div_lt_iff_lt_mul (by omega)];rw[Nat.pow_succ]at h;exact h)];have:(UInt8.ofNat n).toNat=n%256:=by simp
  rw[this];omega
def sealB(b:Bk):Bk:=b.take 60++lowB (crcC (b.take 60)) 4
theorem vh{b:Bk}(h:b.length=64):(sealB b).length=64:=by simp[sealB,yj,h]
theorem XQ{b:Bk}(h:b.length=64):(sealB b).take 60=b.take 60:=by
 exact List.take_left' (by simp[h])
theorem XR{b:Bk}(h:b.length=64):sealB (sealB b)=sealB b:=by
 show(sealB b).take 60++_=_;rw[XQ h];rfl
end Go.Proofs.YtfhfbpmlnjdfoaaGreatDoor
