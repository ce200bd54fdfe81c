/- Plan of an adm -/
import Derived.Test.YtpejdgiccaijfaaGreatDoorG02
import Derived.Test.YtpejdgiccaijfaaGreatDoorG05
import Derived.RangeFuncWrites
import Derived.Test.YtpejdgiccaijfaaGreatDoorG04
import Derived.Laws.EntriesVeiled
set_option maxRecDepth 100000
set_option maxHeartbeats 4000000
namespace Go.Proofs.YtpejdgiccaijfaaGreatDoor
open Go Go.RowKit Tryz
section
theorem need_any(n:Nat)(h1:1<=n)(h2:n<=100000)(w:World):Calls prog 31 #[.int .i64 (n:Int)] w fun e w'=>e=.returned (.int .i64 (((n-1)/4+1:Nat):Int))/\w=w':=by
 have q1:decide ((n:Int)<0)=false:=oe;have q2:((n:Int)==0)=false:=by rw[qYo];omega
 have hn:¬((n:Int)<0):=oM;go_enter func31,ntmps31
 go_wp2
 go_ret
 refine⟨?_,rfl⟩;show Ending.returned (Value.int .i64 _)=_
 congr 2
 omega
theorem AL(n f t:Int)(h1:f<=n)(h2:n<=t)(w:World):Calls prog 44 #[.int .i64 n,.int .i64 f,.int .i64 t] w fun e w'=>e=.returned (.bool true)/\w=w':=by
 have q1:decide (f<=n)=true:=by simpa using h1
 have q2:decide (n<=t)=true:=by simpa using h2
 go_enter func44,ntmps44
 go_wp2
 go_ret
 exact⟨rfl,rfl⟩
abbrev superC(id bl sl jo pa lo ba:Int):List Value:=[.int .i64 id,.int .i64 bl,.int .i64 sl,.int .i64 jo,.int .i64 pa,.int .i64 lo,.int .i64 ba]
abbrev layC(sl jo pa lo:Nat):List Value:=[.int .i64 1,.int .i64 (1+2*(pa:Int)),.int .i64 (1+2*(pa:Int)+(jo:Int)),.int .i64 (1+2*(pa:Int)+(jo:Int)+(lo:Int)),.int .i64 (1+2*(pa:Int)+(jo:Int)+(lo:Int)+(lo:Int)),.int .i64 (1+2*(pa:Int)+(jo:Int)+(lo:Int)+(lo:Int)+(lo:Int)),.int .i64 (1+2*(pa:Int)+(jo:Int)+(lo:Int)+(lo:Int)+(lo:Int)+(sl:Int))]
theorem Upd.jT{w w':World}(h:Upd (fun _=>False) w w'){b:Nat}{o:Obj}(e:w.heap[b]?=some o):w'.heap[b]?=some o:=by
 have:=h.block b (Array.getElem?_eq_some_iff.1 e).1 id;rw[this,e]
theorem QB(sl jo pa lo:Nat):(layC sl jo pa lo).toArray.all (·.oneCell')=true:=by
 refine qYn fun v hv=>?_;simp only[layC,qzm,qzy,qYt]at hv;rcases hv with rfl|rfl|rfl|rfl|rfl|rfl|rfl<;>rfl
theorem xF:(prog.info? 73).map (·.size)=some 7:=kR
theorem xj:(prog.info? 44).map (·.size)=some 7:=kR
theorem un(id:Int)(bl sl jo pa lo ba:Nat)(b1:1<=bl)(b2:bl<=4096)(s1:1<=sl)(s2:sl<=1024)(j1:4<=jo)(j2:jo<=1024)(l1:1<=lo)(l2:lo<=1024)(a1:1<=ba)(a2:ba<=64)(p1:(sl-1)/4+1<=pa)(p2:pa<=4096)
  (hz:1+2*pa+jo+lo+lo+lo+sl<=4096) (w:World):
  Calls prog 26 #[.agg (superC id bl sl jo pa lo ba).toArray] w fun e w'=>e=.returned (.tuple #[.agg (layC sl jo pa lo).toArray,.int .i64 0])/\Below w.heap.size w w':=by
 have hg:=zc w (.cells (superC id bl sl jo pa lo ba).toArray 44) rfl;have k1:(w.alloc (.cells (superC id bl sl jo pa lo ba).toArray 44)).cell? ⟨w.heap.size,1,none⟩=some (.int .i64 (bl:Int)):=za hg 1;have k2:(w.alloc (.cells (superC id bl sl jo pa lo ba).toArray 44)).cell? ⟨w.heap.size,2,none⟩=some (.int .i64 (sl:Int)):=za hg 2;have k3:(w.alloc (.cells (superC id bl sl jo pa lo ba).toArray 44)).cell? ⟨w.heap.size,3,none⟩=some (.int .i64 (jo:Int)):=za hg 3;have k4:(w.alloc (.cells (superC id bl sl jo pa lo ba).toArray 44)).cell? ⟨w.heap.size,4,none⟩=some (.int .i64 (pa:Int)):=za hg 4;have k5:(w.alloc (.cells (superC id bl sl jo pa lo ba).toArray 44)).cell? ⟨w.heap.size,5,none⟩=some (.int .i64 (lo:Int)):=za hg 5;have k6:(w.alloc (.cells (superC id bl sl jo pa lo ba).toArray 44)).cell? ⟨w.heap.size,6,none⟩=some (.int .i64 (ba:Int)):=za hg 6;go_enter func26,ntmps26
 go_wp2_with fail
 have hua:Upd (fun _=>False) (w.alloc (.cells (superC id bl sl jo pa lo ba).toArray 44)) ((w.alloc (.cells (superC id bl sl jo pa lo ba).toArray 44)).alloc (.cells #[.int .i64 0,.int .i64 0,.int .i64 0,.int .i64 0,.int .i64 0,.int .i64 0,.int .i64 0] 73)):=(uur _ _).alloc _;have hgl:((w.alloc (.cells (superC id bl sl jo pa lo ba).toArray 44)).alloc (.cells #[.int .i64 0,.int .i64 0,.int .i64 0,.int .i64 0,.int .i64 0,.int .i64 0,.int .i64 0] 73)).heap[w.heap.size+1]?=_:=zc _ _ oe;have hul:Upd (fun _=>False) w ((w.alloc (.cells (superC id bl sl jo pa lo ba).toArray 44)).alloc (.cells #[.int .i64 0,.int .i64 0,.int .i64 0,.int .i64 0,.int .i64 0,.int .i64 0,.int .i64 0] 73)):=((uur _ w).alloc _).alloc _;have hs2:((w.alloc (.cells (superC id bl sl jo pa lo ba).toArray 44)).alloc (.cells #[.int .i64 0,.int .i64 0,.int .i64 0,.int .i64 0,.int .i64 0,.int .i64 0,.int .i64 0] 73)).heap.size=w.heap.size+2:=oe;replace k1:=hua.jS k1 (fun h=>h);replace k2:=hua.jS k2 (fun h=>h);replace k3:=hua.jS k3 (fun h=>h);replace k4:=hua.jS k4 (fun h=>h);replace k5:=hua.jS k5 (fun h=>h);replace k6:=hua.jS k6 (fun h=>h);generalize (w.alloc (.cells (superC id bl sl jo pa lo ba).toArray 44)).alloc (.cells #[.int .i64 0,.int .i64 0,.int .i64 0,.int .i64 0,.int .i64 0,.int .i64 0,.int .i64 0] 73)=w2 at*;generalize hm:w.heap.size=m at*;have HM:=Y3 hgl hul hs2;clear hg hua hgl hul hs2
 go_region_held3 (fun W=>W.cell? ⟨m,1,none⟩=some (.int .i64 (bl:Int))/\W.cell? ⟨m,2,none⟩=some (.int .i64 (sl:Int))/\W.cell? ⟨m,3,none⟩=some (.int .i64 (jo:Int))/\W.cell? ⟨m,4,none⟩=some (.int .i64 (pa:Int))/\W.cell? ⟨m,5,none⟩=some (.int .i64 (lo:Int))/\W.cell? ⟨m,6,none⟩=some (.int .i64 (ba:Int)))
  ((go_split_ands;(simp only[qYh]at*);((repeat' constructor)<;>assumption)))
  (first|(go_at_call 44;refine(AL _ _ _ oM oM _).mono ?_;rintro e w' ⟨rfl,rfl⟩)|(go_at_call 31;refine(need_any _ s1 oM _).mono ?_;rintro e w' ⟨rfl,rfl⟩))
 obtain⟨hgl,hul,hs2⟩:=HM.o;clear HM k1 k2 k3 k4 k5 k6
 rename_i hHeld
 obtain⟨k1,k2,k3,k4,k5,k6⟩:=hHeld;have hm2:m<w2.drew.heap.size:=by show _<w2.heap.size;omega
 have hm3:m+1<w2.drew.heap.size:=by show _<w2.heap.size;omega
 have hu:Upd (fun _=>False) w w2.drew:=hul.drew;replace hgl:w2.drew.heap[m+1]?=_:=hgl;replace hs2:w2.drew.heap.size=m+2:=hs2;have HM:=Y3 hgl hu hs2;clear hgl hul hs2 hu;generalize w2.drew=w3 at*;have hth:Hid (∀X,(w3.alloc X).there (m+1) 0 7):=by
  intro X j hj;have hb:(w3.alloc X).heap[m+1]?=_:=((uur (fun _=>False) w3).alloc X).jT HM.o.1;rw[za hb,zf hb,qXx];refine⟨?_,rfl⟩;rw[qxe oz];rfl
 go_upto_region 14 with fail
 have rA:=zg (zc w3 (.cells (layC sl jo pa lo).toArray 73) rfl);have hB:Below w.heap.size w (w3.alloc (.cells (layC sl jo pa lo).toArray 73)):=Upd.below ((HM.o.2.1).alloc _);have hth2:=hth.out (.cells (layC sl jo pa lo).toArray 73);clear k1 k2 k3 k4 k5 k6 HM hth;generalize w3.alloc (.cells (layC sl jo pa lo).toArray 73)=w5 at*;generalize w3.heap.size=m3 at*;have h7:(layC sl jo pa lo).length=7:=rfl;have h1:=QB sl jo pa lo;have hE:(Value.tuple #[.agg (layC sl jo pa lo).toArray,.int .i64 0])=Value.tuple #[.agg (layC sl jo pa lo).toArray,.int .i64 0]:=rfl;generalize hL:layC sl jo pa lo=L at*;have hi:(prog.info? 73).map (·.size)=some L.length:=by rw[h7];exact xF
 have hi2:(prog.info? 73).map (·.size)=some L.toArray.size:=by rw[qXh,h7];exact xF
 have hth3:w5.there (m+1) 0 L.toArray.size:=by rw[qXh,h7];exact hth2
 have hth4:w5.there (m+1) 0 L.length:=by rw[h7];exact hth2
 have HF:=Y6 hB hth3 hth4 hi hi2 h1;clear hB hth2 hth3 hth4 hi hi2 h1 h7 hE;go_wp2_with (first
  |(refine qYy rfl _ _ rfl _ _ rfl L _ rA underlying73 rfl HF.o.2.2.2.1 ?_)
  |(refine qZa rfl _ _ _ rfl (m+1) 0 L.toArray rfl rfl HF.o.2.1 HF.o.2.2.2.2.1 HF.o.2.2.2.2.2 ?_)
  |fail)
 refine qYp (zp rfl _ _ (m+1) 0 L _ rfl (qYk _ _ _ _ HF.o.2.2.1) underlying73 rfl HF.o.2.2.2.1) rfl ⟨by subst hL;rfl,zj (hm▸HF.o.1) (zo _ (m+1) 0 _) oM (fun k e=>oM)⟩
open Go Go.RowKit Go.Shelf Tryz
attribute [local go_sem] qYa
abbrev zcl(base:Nat){m:Nat}(x:{i:Nat//i<m}):Array Value:= #[.int .i64 (x.1:Int),.int .i64 ((base:Int)+(x.1:Int))]
theorem AM(n:Nat)(hn:1<=n)(S:Nat->Prop)(l Bm Bb base m:Nat)(hm:m<=4096)(hbs:base<=4096)(hBm:¬S Bm)(hBb:¬S Bb)(J Jx:List {i:Nat//i<m}->World->Prop)
  (hY:∀pre (x:{i:Nat//i<m}) W,J pre W->pre.length<m->YieldAt Fence.wide (n-1) prog l (zcl base x) W fun e W'=>
   (e=.returned (.bool true)/\J (pre++[x]) W'/\Upd S W W')\/(e=.returned (.bool false)/\Jx (pre++[x]) W'))
  (W:World) (hmW:Bm<W.heap.size) (hbW:Bb<W.heap.size) (hcm:W.cell? ⟨Bm,0,none⟩=some (.int .i64 m)) (hcb:W.cell? ⟨Bb,0,none⟩=some (.int .i64 base)) (h0:J [] W):
  CallsIn Fence.wide n prog 196 #[.func (.yield l) #[] #[],.pointer (some ⟨Bm,0,none⟩),.pointer (some ⟨Bb,0,none⟩)] W fun e W'=>(∃v,e=.returned v)/\
   ((∃ys:List {i:Nat//i<m},ys.map (·.1)=List.range m/\J ys W')\/(∃pre:List {i:Nat//i<m},pre.map (·.1)=List.range pre.length/\Jx pre W')):=by
 refine callsIn_of_wp func196 rfl trivial ?_ rfl;simp only[ntmps196,qXh,qyz,qzc,Nat.reduceAdd,Nat.reduceSub,qxi,qxj,qXb,qxy,qzu,qxz]
 gi_wp2
 gi_loopw [4] (fun i wr=>∃(k:Nat) (pre:List {i:Nat//i<m}),k<=m/\i=.int .i64 k/\pre.map (·.1)=List.range k/\J pre wr/\Upd S W wr)
  (fun i _=>m-(intOf i).toNat)
 case atStart=>exact⟨0,[],qXy _,rfl,rfl,h0,uur _ _⟩
 case round=>
  obtain⟨k,pre,hk,rfl,hpre,hJs,hnx⟩:=hrel;have hcm':wr.cell? ⟨Bm,0,none⟩=some (.int .i64 m):=(hnx.cellAt hmW hBm).trans hcm;have hcb':wr.cell? ⟨Bb,0,none⟩=some (.int .i64 base):=(hnx.cellAt hbW hBb).trans hcb;by_cases hlt:k<m
  .have hpl:pre.length=k:=by have:=congrArg List.length hpre;simpa using this
   obtain⟨fn,tmps,assign,body,hy,hR⟩:=hY pre ⟨k,hlt⟩ wr hJs oM;have b2:(k:Int)<(m:Int):=oM
   gi_wp2
   refine hR.mono ?_;rintro e W3 (⟨rfl,hJ3,hk3⟩|⟨rfl,hJx3⟩)
   .gi_wp2
    go_roundw
    case rel=>exact⟨k+1,pre++[⟨k,hlt⟩],oM,oe,by simp[List.range_succ,hpre],hJ3,hnx.trans hk3⟩
    case measure=>simp[intOf];omega
   .gi_wp2
    refine qYp (qYu rfl _ _ _) rfl ?_;exact⟨⟨_,rfl⟩,.inr ⟨_,by simp[List.range_succ,hpre,hpl],hJx3⟩⟩
  .obtain rfl:k=m:=oM
   gi_wp2
   go_end0
   exact⟨⟨_,rfl⟩,.inl ⟨_,hpre,hJs⟩⟩
theorem sF(n:Nat)(hn:1<=n)(S:Nat->Prop)(Bm Bb base m:Nat)(w:World)(hm:m<=4096)(hbs:base<=4096)(hmw:Bm<w.heap.size)(hbw:Bb<w.heap.size)(hmS:¬S Bm)(hbS:¬S Bb)
  (hcm:w.cell? ⟨Bm,0,none⟩=some (.int .i64 m)) (hcb:w.cell? ⟨Bb,0,none⟩=some (.int .i64 base)):
  SeqStopsK Fence.wide n prog 196 #[.pointer (some ⟨Bm,0,none⟩),.pointer (some ⟨Bb,0,none⟩)] (fun x:{i:Nat//i<m}=>zcl base x) (Upd S) (fun ys=>ys.map (·.1)=List.range m) (fun ys=>ys.map (·.1)=List.range ys.length) m w:=fun l J Jx W hW _ _ hY h0=>
 AM n hn S l Bm Bb base m hm hbs hmS hbS J Jx hY W (qXr hmw hW.size) (qXr hbw hW.size) ((hW.cell (p:=⟨Bm,0,none⟩) hmw).trans hcm) ((hW.cell (p:=⟨Bb,0,none⟩) hbw).trans hcb) h0
theorem tD(base m:Int)(w:World):
  Calls prog 131 #[.int .i64 base,.int .i64 m] w fun e w'=>e=.returned (.func (.func 196) #[] #[.pointer (some ⟨w.heap.size+1,0,none⟩),.pointer (some ⟨w.heap.size,0,none⟩)])/\
   w'=(w.alloc (.cells #[.int .i64 base] 3)).alloc (.cells #[.int .i64 m] 3):=by
 have hmf:=qqf;go_enter func131,ntmps131
 go_wp2
 go_ret
 exact⟨rfl,rfl⟩
theorem QC{S:Nat->Prop}{w:World}{b:Nat}{F:List Bk}{O:List (Nat×Bk)}{P:List Int}(h:Dv S w b F O P)(base m:Nat)(h1:1<=m)(h2:base+m<=F.length):
  Calls prog 129 #[.pointer (some ⟨b,0,none⟩),.int .i64 (base:Int),.int .i64 (m:Int),.int .i64 1] w fun e w'=>e=.returned (.bool true)/\w=w':=by
 have hfl:=h.good.fl;have b1:¬((base:Int)>(F.length:Int)):=oM;have b2:(m:Int)<=((F.length:Int)-(base:Int)):=oM;have b3:¬((m:Int)<1):=oM;have b4:¬((base:Int)<0):=oM;have b5:0<=((F.length:Int)-(base:Int)):=oM;have q1:decide ((F.length:Int)<(base:Int))=false:=by simp;omega
 go_enter func129,ntmps129
 go_wp2_with (first
  |(go_at_call 78;refine(tw h).mono ?_;rintro e w' ⟨rfl,rfl⟩)
  |fail)
 go_ret
 exact⟨rfl,rfl⟩
attribute [local go_sem] qYa
def Jz(w:World)(S:Nat->Prop):Prop:=∀j,S j->j<w.heap.size->∃cs t z,w.heap[j]?=some (.cells cs t z)
theorem zC{S:Nat->Prop}{w w':World}(hu:Upd S w w')(hS:Jz w S):KeepsOthers w w':=
 ⟨hu.size,fun k o hk ho=>by
  have hl:=zd hk;refine(hu.block k hl (fun hs=>?_)).trans hk;obtain⟨cs,t,z,h⟩:=hS k hs hl;rw[hk]at h;cases h;simp[Obj.isCells]at ho⟩
theorem xq{S:Nat->Prop}{a w w':World}{row:Option Nat}(h:Upd S a w)(hg:w.grownBy w' row)(hr:∀r,row=some r->S r):Upd S a w':=
 h.trans (Upd.kh hg (fun g e _=>hr g e))
theorem Wg{w w':World}{row:Option Nat}{j:Nat}{cs:Array Value}{t:TypeId}{z:Nat×Nat}(h:w.heap[j]?=some (.cells cs t z))(_hg:w.grownBy w' row)(hr:∀r,row=some r->∃o:Obj,w.heap[r]?=some o/\o.isCells=false):row≠some j:=fun e=>by
 obtain⟨o,ho,hi⟩:=hr j e;rw[h]at ho;cases ho;simp[Obj.isCells]at hi
theorem zcm:(#[.int .u8 0,.int .u8 0,.int .u8 0,.int .u8 0,.int .u8 0,.int .u8 0,.int .u8 0,.int .u8 0,.int .u8 0,.int .u8 0,.int .u8 0,.int .u8 0,.int .u8 0,.int .u8 0,.int .u8 0,.int .u8 0,.int .u8 0,.int .u8 0,.int .u8 0,.int .u8 0,.int .u8 0,.int .u8 0,.int .u8 0,.int .u8 0,.int .u8 0,.int .u8 0,.int .u8 0,.int .u8 0,.int .u8 0,.int .u8 0,.int .u8 0,.int .u8 0,.int .u8 0,.int .u8 0,.int .u8 0,.int .u8 0,.int .u8 0,.int .u8 0,.int .u8 0,.int .u8 0,.int .u8 0,.int .u8 0,.int .u8 0,.int .u8 0,.int .u8 0,.int .u8 0,.int .u8 0,.int .u8 0,.int .u8 0,.int .u8 0,.int .u8 0,.int .u8 0,.int .u8 0,.int .u8 0,.int .u8 0,.int .u8 0,.int .u8 0,.int .u8 0,.int .u8 0,.int .u8 0,.int .u8 0,.int .u8 0,.int .u8 0,.int .u8 0]:Array Value)=(bkC zB).toArray:=kR
def Yl(base:Nat)(B:List Bk)(i:Nat):Nat×Bk:=(base+i,B.getD i zB)
def ckO(base m:Nat)(B:List Bk):List (Nat×Bk):=(List.range m).map (Yl base B)
theorem DvAt.cells{w:World}{b:Nat}{vf vo vp:Value}{F:List Bk}{O:List (Nat×Bk)}{P:List Int}(h:DvAt w b vf vo vp F O P):∀j,dvS b vf vo vp j->∃cs t,w.heap[j]?=some (.cells cs t (0,0)):=by
 have hs:∀{e:TypeId} {k n:Nat} {v:Value} {xs:List Value},Sl w e k v n xs->∀j,v.ownBlock=some j->∃cs t,w.heap[j]?=some (.cells cs t (0,0)):=by
  intro e k n v xs hsl j hj;rcases hsl with⟨-,⟨rfl,-⟩|⟨g,off,cap,cur,rfl,hg,-⟩⟩
  .cases hj
  .cases hj;exact⟨_,_,hg⟩
 rintro j (rfl|hj|hj|hj)
 .exact ⟨_,_,h.str⟩
 .exact hs h.fs j hj
 .exact hs h.os j hj
 .exact hs h.ps j hj
theorem Dv.grown{S:Nat->Prop}{w w':World}{row:Option Nat}{b:Nat}{F:List Bk}{O:List (Nat×Bk)}{P:List Int}(h:Dv S w b F O P)(hg:w.grownBy w' row)(hr:∀r,row=some r->∃o:Obj,w.heap[r]?=some o/\o.isCells=false):Dv S w' b F O P:=by
 obtain⟨vf,vo,vp,h,hS⟩:=h;refine⟨vf,vo,vp,h.keep (Upd.kh (S:=fun j=>row=some j) hg (fun g e _=>e)) (fun j hj e=>?_),hS⟩;obtain⟨cs,t,hc⟩:=h.cells j hj;obtain⟨o,ho,hi⟩:=hr j e;rw[hc]at ho;cases ho;simp[Obj.isCells]at hi
section
variable{F:Fence}{n:Nat}{P:Program}{ops:Array Oper}{rest:List Oper}{op:Oper}{a:Act}{w:World}{Q:Exit->Act->World->Prop}
theorem vD{K:Act->World->Prop}(ty:TypeId)(x:Operand)(ho:op.op=.load ty x)(b o:Nat)(hx:a.eval x=.pointer (some ⟨b,o,none⟩))(cs:List Value)(d:TypeDesc)(hc:w.rangeAt b o cs)
  (hu:P.underlying ty=some d) (hd:d.isRow=true) (hi:(P.info? ty).map (·.size)=some cs.length) (h:K (a.put op.dst (.agg cs.toArray)) w):op.wpIn F n P a w K Q:=by
 unfold Oper.wpIn;refine⟨by simp[Oper.about,ho],?_⟩;rw[Oper.semAt_plain F _ _ jB];unfold execOp;simp only[ho,hx,Instr.loadAt,Instr.sureAddr,qYf,Sem.run_pure,qYe,run_loadVar_mid w b o ty cs d hc hu hd hi];exact h
theorem yJ(hgd:op.guard=none)(ty:TypeId)(x:Operand)(ho:op.op=.load ty x)(b o:Nat)(hx:a.eval x=.pointer (some ⟨b,o,none⟩))(cs:List Value)(d:TypeDesc)(hc:w.rangeAt b o cs)
  (hu:P.underlying ty=some d) (hd:d.isRow=true) (hi:(P.info? ty).map (·.size)=some cs.length) (h:wpListIn F n P ops Q rest (a.put op.dst (.agg cs.toArray)) w):wpListIn F n P ops Q (op::rest) a w:=
 wpListIn_plain hgd fun _ hK=>vD ty x ho b o hx cs d hc hu hd hi (hK _ _ h)
theorem qG{K:Act->World->Prop}(ty:TypeId)(x y:Operand)(ho:op.op=.store ty x y)(b o:Nat)(cells:Array Value)(hx:a.eval x=.pointer (some ⟨b,o,none⟩))(hy:a.eval y=.agg cells)
  (ht:w.there b o cells.size) (hi:(P.info? ty).map (·.size)=some cells.size) (h1:cells.all (·.oneCell')=true)
  (h:K (a.put op.dst undef) (w.setCells b o cells.toList)):op.wpIn F n P a w K Q:=by
 unfold Oper.wpIn;refine⟨by simp[Oper.about,ho],?_⟩;rw[Oper.semAt_plain F _ _ jB];unfold execOp;simp only[ho,hx,hy,Instr.storeAt,Instr.sureAddr,qYf,Sem.run_pure,qYe,run_storeVar_mid w b o ty cells ht hi h1];exact h
theorem vO(hgd:op.guard=none)(ty:TypeId)(x y:Operand)(ho:op.op=.store ty x y)(b o:Nat)(cells:Array Value)(hx:a.eval x=.pointer (some ⟨b,o,none⟩))(hy:a.eval y=.agg cells)
  (ht:w.there b o cells.size) (hi:(P.info? ty).map (·.size)=some cells.size) (h1:cells.all (·.oneCell')=true)
  (h:wpListIn F n P ops Q rest (a.put op.dst undef) (w.setCells b o cells.toList)):wpListIn F n P ops Q (op::rest) a w:=
 wpListIn_plain hgd fun _ hK=>qG ty x y ho b o cells hx hy ht hi h1 (hK _ _ h)
theorem xz(hgd:op.guard=none)(ty:TypeId)(x y:Operand)(ho:op.op=.store ty x y)
  (zs:Array Value) (t:TypeId) (vs:List Value) (hx:a.eval x=.pointer (some ⟨w.heap.size,0,none⟩)) (hy:a.eval y=.agg vs.toArray) (hz:zs.size=vs.length)
  (hi:(P.info? ty).map (·.size)=some vs.length) (h1:∀v∈vs,v.oneCell'=true)
  (h:wpListIn F n P ops Q rest (a.put op.dst undef) (w.alloc (.cells vs.toArray t))):wpListIn F n P ops Q (op::rest) a (w.alloc (.cells zs t)):=by
 refine vO hgd ty x y ho w.heap.size 0 vs.toArray hx hy (fun j hj=>?_) ox (qYn h1) ?_
 .rw [za (zc w _ rfl),zf (zc w _ rfl)];simp at hj;exact⟨by rw[qXx,qxe oM];rfl,rfl⟩
 .rw [List.toList_toArray,tu w t vs zs hz];exact h
end
end
section
theorem yT(Z:Bk)(hZ:Z=zB):∀w:World,(Instr.build 60 #[]).run prog w=.ok (.agg (bkC Z).toArray) w:=by
 intro w;subst hZ;kernel_rfl
theorem zO{ops:Array Oper}{rest:List Oper}{op:Oper}{a:Act}{w:World}{Q:Exit->Act->World->Prop}(hgd:op.guard=none)(ho:op.op=.build 60 #[]){Z:Bk}
  (hrun:∀w:World,(Instr.build 60 #[]).run prog w=.ok (.agg (bkC Z).toArray) w)
  (h:wpList prog ops Q rest (a.put op.dst (.agg (bkC Z).toArray)) w):wpList prog ops Q (op::rest) a w:=by
 refine qYz hgd fun K' hK'=>?_;unfold Oper.wp;simp only[execOp,ho,qzk,qzj,qYf,hrun,qYe];exact hK' _ _ h
theorem wk(Z:Bk)(hZ:Z=zB):∀w:World,(Instr.alloc 60 true (.tuple #[])).run prog w=.ok (.pointer (some ⟨w.heap.size,0,none⟩)) (w.alloc (.cells (bkC Z).toArray 60)):=by
 intro w;subst hZ;kernel_rfl
theorem qH{P:Program}{ops:Array Oper}{o:Oper}{a:Act}{w:World}{K:Act->World->Prop}{Q:Exit->Act->World->Prop}{E:Prop}(hg:o.guard=none)(t:TypeId)(hop:o.op=.alloc t)(cs:Array Value)
  (hrun:∀w:World,(Instr.alloc t true (.tuple #[])).run P w=.ok (.pointer (some ⟨w.heap.size,0,none⟩)) (w.alloc (.cells cs t)))
  (hK:K (a.put o.dst (.pointer (some ⟨w.heap.size,0,none⟩))) (w.alloc (.cells cs t))):if Region.wanted o (yielded ops a.tmps)=true then Oper.wp P o a w K Q else E:=by
 have hw:Region.wanted o (yielded ops a.tmps)=true:=by simp[Region.wanted,hg]
 rw[if_pos hw];unfold Oper.wp;simp only[execOp,hop,qYf,hrun,qYe];exact hK
theorem Wh(id bl sl jo pa lo ba:Int):∀v∈superC id bl sl jo pa lo ba,v.oneCell'=true:=by
 intro v hv;simp only[superC,qzm,qzy,qYt]at hv;rcases hv with rfl|rfl|rfl|rfl|rfl|rfl|rfl<;>rfl
def qI(X:Int->World->Prop)(R:World->Prop)(e:Ending)(w':World):Prop:=∃c:Int,e=.returned (.int .i64 c)/\(c=0->R w')/\(c≠0->X c w')
theorem zcn{g n:Nat}(hn:n<=100)(fd:Nat->Nat)(fi ca:Nat->Array Value)(R:Nat->World->Prop)(X:Int->World->Prop)
  (hc:∀k,k<n->∀W,R k W->W.cell? ⟨g,k,none⟩=some (.func (.func (fd k)) (fi k) (ca k)))
  (he:∀k,k<n->∀args W,(callFunc (fd k) args).run prog W=.ok (.enter (fd k) args) W)
  (hs:∀k,k<n->∀W,R k W->Calls prog (fd k) (fi k++ca k) W (qI X (R (k+1))))
  {w:World} (h0:R 0 w):Calls prog 53 #[.slice (some ⟨g,0,none⟩) n n] w (qI X (R n)):=by
 have H:=Y3 hc hs h0;have HE:=qqh he;clear hc he hs h0;go_enter func53,ntmps53
 go_wp2
 go_step3
 go_wp2
 go_step3
 go_wp2_with fail
 go_loopg[3,8] n (fun gk s3 s8 wr=>∃k:Nat,k+gk=n/\s8=.int .i64 (k:Int)/\s3=.int .i64 0/\R k wr)
 case atStart=>exact⟨0,oM,rfl,rfl,H.o.2.2⟩
 case round=>
  obtain⟨k,hk,rfl,rfl,hS⟩:=hrel;by_cases hlt:k<n
  .have k1:(k:Int)<(n:Int):=oM;have k0:(0:Int)<=(k:Int):=oM;have cg:=H.o.1 k hlt wr hS;have HC:=qqh (H.o.2.1 k hlt wr hS);have hent:=HE.o k hlt;clear hS;obtain⟨fk,hfk⟩:=qqe (fd k);obtain⟨ik,hik⟩:=qqe (fi k);obtain⟨ck,hck⟩:=qqe (ca k);rw[<-hfk,<-hik,<-hck]at cg HC;rw[<-hfk]at hent;clear hfk hik hck;go_wp2_with fail
   refine HC.o.mono ?_;rintro e w2 ⟨c,rfl,hr,hx⟩;clear HC cg hent;by_cases hc0:c=0
   .subst hc0;have HS2:=qqh (hr rfl);clear hr hx;go_wp2_with fail
    go_roundg (gk-1)
    case measure=>omega
    case rel=>exact⟨k+1,oM,by go_num,rfl,HS2.o⟩
   .have q0:(c==0)=false:=by simpa using hc0
    have HZ:=Y2 hc0 (hx hc0);clear hr hx hc0;go_wp2_with fail
    try rw[qxq]
    go_ret
    exact⟨c,rfl,fun h=>absurd h HZ.o.1,fun _=>HZ.o.2⟩
  .obtain rfl:k=n:=oM;have k1:¬((k:Int)<(k:Int)):=oM;have HS2:=qqh hS;clear hS;go_wp2_with fail
   try rw[qxq]
   go_ret
   exact⟨0,rfl,fun _=>HS2.o,fun h=>absurd rfl h⟩
def sizeN(sl jo pa lo:Nat):Nat:=1+2*pa+jo+lo+lo+lo+sl
def qJ(F G:List Bk)(z bl:Nat):Int:=if F.length=z/\G.length=bl then 0 else 22
theorem QD{S T:Nat->Prop}{w:World}{b bb:Nat}{F G:List Bk}{O Q:List (Nat×Bk)}{P R:List Int}(h:Dv S w b F O P)(h':Dv T w bb G Q R)(id:Int)(bl sl jo pa lo ba:Nat):
  Calls prog 46 #[.agg (superC id bl sl jo pa lo ba).toArray,.agg (layC sl jo pa lo).toArray,.pointer (some ⟨b,0,none⟩),.pointer (some ⟨bb,0,none⟩)] w
   fun e w'=>e=.returned (.int .i64 (qJ F G (sizeN sl jo pa lo) bl))/\Upd (fun _=>False) w w':=by
 obtain⟨U,hU⟩:=qqe (superC id bl sl jo pa lo ba);obtain⟨V,hV⟩:=qqe (layC sl jo pa lo);obtain⟨w1,hw1⟩:=qqe ((w.alloc (.cells U.toArray 44)).alloc (.cells V.toArray 73));have hu1:Upd (fun _=>False) w w1:=by rw[hw1];exact((uur _ w).alloc _).alloc _
 have g1:w1.heap[w.heap.size]?=some (.cells U.toArray 44):=by
  rw[hw1];exact(((uur (fun _=>False) (w.alloc (.cells U.toArray 44))).alloc (.cells V.toArray 73))).jT (zc w _ rfl)
 have g2:w1.heap[w.heap.size+1]?=some (.cells V.toArray 73):=by rw[hw1];exact zc _ _ oe
 have u1:w1.cell? ⟨w.heap.size,1,none⟩=some (.int .i64 (bl:Int)):=by rw[za g1,hU];simp[superC]
 have v6:w1.cell? ⟨w.heap.size+1,6,none⟩=some (.int .i64 ((sizeN sl jo pa lo:Nat):Int)):=by rw[za g2,hV];simp[layC,sizeN]
 have hS1:∀k,Calls prog 78 #[.pointer (some ⟨b,0,none⟩)] (w1.drewN k) fun e w'=>e=.returned (.int .i64 (F.length:Int))/\w'=w1.drewN k:=fun k=>tw (h.new (hu1.trans ((uur (fun _=>False) w1).drewN k)));have hS2:∀k,Calls prog 78 #[.pointer (some ⟨bb,0,none⟩)] (w1.drewN k) fun e w'=>e=.returned (.int .i64 (G.length:Int))/\w'=w1.drewN k:=fun k=>tw (h'.new (hu1.trans ((uur (fun _=>False) w1).drewN k)));have HS:=Y2 hS1 hS2;have HU:=qqh hu1;have HW:=qqh hw1;obtain⟨mc,hmc⟩:=qqe (qJ F G (sizeN sl jo pa lo) bl);rw[<-hU,<-hV,<-hmc];unfold qJ at hmc;generalize sizeN sl jo pa lo=z at*;generalize F.length=f at*;generalize G.length=g at*;have HM:=qqh hmc;clear h h' hS1 hS2 hu1 hw1 g1 g2 hU hV hmc;go_enter func46,ntmps46
 go_wp2_with fail
 rw[<-HW.o];by_cases hf:f=z
 .by_cases hg:g=bl
  .have e:mc=0:=by rw[HM.o,if_pos ⟨hf,hg⟩]
   subst hf hg e
   go_quiet((go_at_call 78;(first|with_reducible exact Calls.quiet_of_same (HS.o.1 _)|with_reducible exact Calls.quiet_of_same (HS.o.2 _))))
   have hu:=HU.o.trans ((uur (fun _=>False) w1).drewN nq);generalize w1.drewN nq=w2 at*;go_wp2
   go_ret
   exact⟨rfl,hu⟩
  .have e:mc=22:=by rw[HM.o,if_neg (fun h=>hg h.2)]
   have q1:¬(g:Int)=(bl:Int):=oM;have q2:((g:Int)==(bl:Int))=false:=by simpa using q1
   subst hf e;clear hg
   go_quiet((go_at_call 78;(first|with_reducible exact Calls.quiet_of_same (HS.o.1 _)|with_reducible exact Calls.quiet_of_same (HS.o.2 _))))
   have hu:=HU.o.trans ((uur (fun _=>False) w1).drewN nq);generalize w1.drewN nq=w2 at*;go_wp2
   go_ret
   exact⟨rfl,hu⟩
 .have e:mc=22:=by rw[HM.o,if_neg (fun h=>hf h.1)]
  have q1:¬(f:Int)=(z:Int):=oM;have q2:((f:Int)==(z:Int))=false:=by simpa using q1
  subst e;clear hf
  go_quiet((go_at_call 78;(first|with_reducible exact Calls.quiet_of_same (HS.o.1 _)|with_reducible exact Calls.quiet_of_same (HS.o.2 _))))
  have hu:=HU.o.trans ((uur (fun _=>False) w1).drewN nq);generalize w1.drewN nq=w2 at*;go_wp2
  go_ret
  exact⟨rfl,hu⟩
theorem YP{w:World}{v:Value}{n:Nat}{xs:List Value}(h:Rd w 64 v n xs)(hn:n<=65536)(hone:∀u∈xs,u.oneCell'=true):
  Calls prog 121 #[v] w fun e w'=>∃v',e=.returned v'/\Sl w' 60 64 v' n xs/\From w.heap.size v'/\Below w.heap.size w w':=by
 obtain⟨i0,hi,hz0,hz1,hz2⟩:=qYs Zh;obtain⟨z0,hz,hzs⟩:∃z,i0.zero=some z/\z.cells.size=64:=⟨_,hz0,by simp[bkV,Value.cells,zB,bkC]⟩
 clear hz0;have H:=qqh h;obtain⟨hl,hm,ao,c,rfl,h0,-⟩:=h;have q34:=fun(w:World) (a:Option Addr) (n c:Nat)=>Lib.run_eql_slice_nil (P:=prog) w 32 60 a n c 0 0 underlying32;cases ao with
 |none=>
  obtain rfl:=h0 rfl;have hx:Hid (xs=[]):=qyb (by simpa using hl);clear hl h0 hm;go_enter func121,ntmps121
  go_wp2
  go_ret
  rw[hx.out];exact⟨_,rfl,Sl.nil _ _ _,From.nil _ _ _,qxl _ _⟩
 |some a=>
  clear h0 hl;have hs0:Sl (w.alloc (.cells #[] 60)) 60 64 (.slice (some ⟨w.heap.size,0,none⟩) 0 0) 0 []:=
   ⟨oe,.inr ⟨w.heap.size,0,0,#[],rfl,zc _ _ rfl,oe,by simp[maxLen],oe,oe⟩⟩
  have HR:Hid (Rd (w.alloc (.cells #[] 60)) 64 (.slice (some a) n c) n xs):=H.o.keep ((uur (fun _=>False) _).alloc _) (fun _ _ h=>h);go_enter func121,ntmps121
  go_wp2_with (at_builtin;refine zI rfl _ _ 32 rfl i0 z0 64 underlying32 hi hz hz1 hz2 hzs de rfl hs0 _ n xs rfl HR.o hone oj oM ?_)
  intro v' w2 hs2 hu2 hb2;go_wp2
  go_ret
  refine⟨_,rfl,by simpa using hs2,?_,?_⟩
  .exact hb2.ge oe oD
  .refine zj ((qxl _ _).alloc (qXo _) _) hu2 (qXo _) oB
theorem UY(F:List Bk):∀u∈rowC F,u.oneCell'=true:=by
 intro u hu;simp only[rowC,qzp]at hu;obtain⟨x,-,hx⟩:=hu;exact zu x u hx
def yU(F:List Bk)(O:List (Nat×Bk))(l:List Bool):List Bk:=(l.zip O).foldl (fun F p=>if p.1=true then F.set p.2.1 p.2.2 else F) F
theorem QE{α:Type}{l:List Bool}{O:List α}{k:Nat}(hk:k<l.length)(hO:l.length<=O.length):(l.take (k+1)).zip O=(l.take k).zip O++[(l[k],O[k]'oM)]:=by
 induction l generalizing O k with
 |nil=>simp at hk
 |cons a l ih=>
  cases O with
  |nil=>simp at hO
  |cons o O=>
   cases k with
   |zero=>simp
   |succ k=>
    have:=ih (O:=O) (k:=k) (by simpa using hk) (by simpa using hO);simp only[List.take_succ_cons,List.zip_cons_cons,qxz,qyr];rw[this]
theorem YQ{F:List Bk}{O:List (Nat×Bk)}{l:List Bool}{k:Nat}(hk:k<l.length)(hO:l.length<=O.length):
  yU F O (l.take (k+1))=if l[k]=true then(yU F O (l.take k)).set (O[k]'oM).1 (O[k]'oM).2 else yU F O (l.take k):=by
 unfold yU;rw[QE hk hO,List.foldl_append];rfl
theorem yV(F:List Bk)(O:List (Nat×Bk))(l:List Bool):(yU F O l).length=F.length:=by
 unfold yU
 induction l.zip O generalizing F with
 |nil=>rfl
 |cons p L ih=>
  simp only[List.foldl_cons];rw[ih];split<;>simp
abbrev Ak(l:List Bool):List Value:=l.map Value.bool
theorem DvGood.crashed{F:List Bk}{O:List (Nat×Bk)}{P:List Int}(h:DvGood F O P):DvGood F [] []:={h with o64:=oe,ol:=oe,pl:=by simp}
theorem QF{S:Nat->Prop}{w:World}{b:Nat}{F:List Bk}{O:List (Nat×Bk)}{P:List Int}(h:Dv S w b F O P){vk:Value}{l:List Bool}(hk:Rd w 1 vk l.length (Ak l))(hlO:l.length<=O.length):
  Calls prog 75 #[.pointer (some ⟨b,0,none⟩),vk] w fun e w'=>∃b2,e=.returned (.tuple #[.pointer (some ⟨b2,0,none⟩),.int .i64 0])/\Dv (fun j=>w.heap.size<=j) w' b2 (yU F O l) [] []/\Below w.heap.size w w':=by
 obtain⟨vf,vo,vp,h,-⟩:=h;obtain⟨c0,c1,-⟩:=h.c;obtain⟨ao,co,rfl⟩:=h.os.rd.jU;obtain⟨ak,ck,rfl⟩:=hk.jU;have hol:=h.good.ol;have hlb:b<w.heap.size:=zd h.str;have HCl:=qqh (YP h.fs.rd (by have:=h.good.fl;omega) (UY F));have H:=Y2 h hk;have hlO':(l.length:Int)<=(O.length:Int):=oM;clear h hk;go_enter func75,ntmps75
 go_wp2_with fail
 refine HCl.out.mono ?_;rintro e w1 ⟨v1,rfl,s1,f1,b1⟩;obtain⟨a1,k1,rfl⟩:=s1.rd.jU;have hu1:=uuo (S:=fun _=>False) b1;have HB1:=Y3 s1 f1 b1;clear s1 f1 b1 c0;obtain⟨w2,hw2⟩:=qqe (w1.alloc (.cells #[(.slice a1 F.length k1),.slice none 0 0,.slice none 0 0] 89));have HW2:=qqh hw2;have hD2:DvAt w2 w1.heap.size (.slice a1 F.length k1) (.slice none 0 0) (.slice none 0 0) F [] []:=by
  have hA:Upd (fun _=>False) w1 w2:=by rw[hw2];exact(uur _ _).alloc _
  obtain⟨s1,f1,b1⟩:=HB1.o;exact⟨by rw[hw2];exact zc _ _ rfl,s1.keep hA (fun _ _ h=>h),Sl.nil _ _ _,Sl.nil _ _ _,H.o.1.good.crashed,fun e=>by have:=s1.lt e;omega,(by simp[Value.ownBlock]),(by simp[Value.ownBlock]),(Dis.nil _ _ _).symm,(Dis.nil _ _ _).symm,Dis.nil _ _ _⟩
 have hU2:Upd (fun _=>False) w w2:=by rw[hw2];exact hu1.alloc _
 have H2:=Y2 hD2 hU2;clear hu1 hD2 hU2 hw2;go_wp2
 rw[<-HW2.o];go_loopw[28] (fun i wr=>∃k:Nat,k<=l.length/\i=.int .i64 k/\DvAt wr w1.heap.size (.slice a1 F.length k1) (.slice none 0 0) (.slice none 0 0) (yU F O (l.take k)) [] []/\Upd (fun j=>(Value.slice a1 F.length k1).ownBlock=some j) w2 wr)
  (fun i _=>l.length-(intOf i).toNat)
 case atStart=>exact⟨0,qXy _,rfl,H2.o.1,uur _ _⟩
 case round=>
  obtain⟨k,hk,rfl,hd,hu⟩:=hrel;have hfs:∀j,(Value.slice a1 F.length k1).ownBlock=some j->w.heap.size<=j:=fun j hj=>HB1.o.2.1 j hj;have hUw:Upd (fun j=>w.heap.size<=j) w wr:=(H2.o.2.mono fE).trans (hu.mono (fun j _ hj=>hfs j hj));have hBw:Below w.heap.size w wr:=Upd.below ((uur (fun _=>False) w).new hUw (fun i hi hs=>oM));by_cases hlt:k<l.length
  .have hkr:=H.o.2.below hBw;obtain⟨blk,ofk,cpk,e1,-,hck⟩:=hkr.at oM;cases e1;have hb:=hck k (.bool l[k]) (by rw[qym,qyj hlt];rfl);have hsn:=YQ (F:=F) hlt hlO;obtain⟨t,ht⟩:=qqe (l[k]);rw[<-ht]at hb hsn;have HT:=qqh hsn;clear hck hsn hkr ht;cases t with
   |false=>
    have HS:=Y2 hd hu;clear hd hu hUw hfs hBw;go_wp2
    go_roundw
    case rel=>exact⟨k+1,oM,by go_num,by rw[HT.o];exact HS.o.1,HS.o.2⟩
    case measure=>simp[intOf];omega
   |true=>
    have hkO:k<O.length:=oM;have h0:=H.o.1;obtain⟨gO,oO,cO,e1,hgO,hcO,rO⟩:=h0.opRange hkO;obtain⟨rfl,rfl⟩:ao=some ⟨gO,oO,none⟩/\co=cO:=by injection e1 with e1 _ e2;exact⟨e1,e2⟩
    clear e1;have hsx:=h0.good.o64 O[k] (qyu hkO);obtain⟨s,x,hO⟩:∃s x,O[k]=(s,x):=⟨_,_,rfl⟩
    rw[hO]at hsx rO HT;obtain⟨hx,hs⟩:=hsx;obtain⟨gF,oF,cF,e1,hgF,hcF,rF,tF⟩:=hd.kv (show s<(yU F O (l.take k)).length by rw[yV];exact hs);have hrw:=hBw.size;have q1:=hUw.jS c1 oM;have q2:=(uuo (S:=fun _=>False) hBw).range rO id;have q3:wr.rangeAt gO (oO+k*65+1) (bkC x):=fun j v hv=>by
     have:=q2 (1+j) v jj;rw[<-this];congr 2;omega
    have q4:wr.cell? ⟨gO,oO+k*65,none⟩=some (.int .i64 (s:Int)):=q2 0 _ rfl;obtain⟨q5,-,-⟩:=hd.c;have hGF:¬gO=gF:=fun e=>by have:=hfs gF (by rw[e1]at*;simp[Value.ownBlock]);omega
    have hBF:¬b=gF:=fun e=>by have:=hfs gF (by rw[e1]at*;simp[Value.ownBlock]);omega
    have h1F:¬w1.heap.size=gF:=fun e=>by have:=HB1.o.1.lt (g:=gF) (by rw[e1];simp[Value.ownBlock]);omega
    have HD:=Y2 hd hu;have hE1:=qqh e1;have hut:=underlying60;have hsi:=zq x hx;have hlx:(bkC x).length=64:=by rw[zm,hx]
    have h1x:=zu x;rw[yV]at e1;cases e1;have hs1:0<=(s:Int):=oM;have hs2:(s:Int)<F.length:=oM;have hk1:(k:Int)<O.length:=oM;obtain⟨m,hm⟩:=qqe (w1.heap.size);rw[<-hm]at q5 h1F⊢;have HM:=qqh hm;clear hd hu hUw hfs hBw rO q2 tF rF h0 hgO hgF hm hcF hcO;have q6:=(HD.o.1.kv (show s<(yU F O (l.take k)).length by rw[yV];exact hs))
    obtain⟨gF',oF',cF',e2,-,-,-,q7⟩:=q6;have e3:=hE1.out.symm.trans e2;cases e3;clear e2;go_upto_region 10 with fail
    clear hb
    go_region_held3 (fun W=>W.cell? ⟨m,0,none⟩=some (.slice (some ⟨gF,oF,none⟩) F.length k1)/\W.cell? ⟨b,1,none⟩=some (.slice (some ⟨gO,oO,none⟩) O.length co)/\W.cell? ⟨gO,oO+k*65,none⟩=some (.int .i64 (s:Int))/\W.rangeAt gO (oO+k*65+1) (bkC x)/\W.there gF (oF+s*64) 64)
     ((go_split_ands;(simp only[qYj,World.there_drew,qYh]at*);((repeat' constructor)<;>first|assumption|(apply World.there_setCells;assumption)|(refine zK ?_ ?_<;>assumption)|(refine World.rangeAt_setCells_apart (by assumption) _ _ _ oM))))
     (fail)
    rename_i hHeld
    clear hHeld q1 q3 q4 q5 q7;have hset:DvAt (wr.drew.setCells gF (oF+s*64) (bkC x)) w1.heap.size (.slice (some ⟨gF,oF,none⟩) F.length k1) (.slice none 0 0) (.slice none 0 0) (yU F O (l.take (k+1))) [] []:=by
     have h2:=HD.o.1.new ((uur (fun _=>False) _).drew);rw[<-yV F O (l.take k)]at h2;have:=h2.setFirm (s:=s) (x:=x) (by rw[yV];exact hs) hx;rw[yV]at this;rw[HT.o,if_pos rfl];exact this
    have hUs:Upd (fun j=>(Value.slice (some ⟨gF,oF,none⟩) F.length k1).ownBlock=some j) w2 (wr.drew.setCells gF (oF+s*64) (bkC x)):=
     HD.o.2.drew.trans ((zo wr.drew gF (oF+s*64) (bkC x)).mono (fun j _ e=>by simp[Value.ownBlock,e]))
    have HS:=Y2 hset hUs;clear hset hUs;go_wp2
    go_roundw
    case rel=>exact⟨k+1,oM,by go_num,by rw[HM.o];exact HS.o.1,HS.o.2⟩
    case measure=>simp[intOf];omega
  .obtain rfl:k=l.length:=oM;rw[List.take_length]at hd;have HE:=Y2 hd hBw;clear hd hUw hu hfs hBw;go_wp2
   go_ret2
   obtain⟨hd,hBw⟩:=HE.o;have hz1:=HB1.o.2.2.size;refine⟨w1.heap.size,rfl,⟨_,_,_,hd,?_⟩,hBw⟩;rintro j (rfl|hj|hj|hj)
   .exact hz1
   .exact HB1.o.2.1 j hj
   .cases hj
   .cases hj
end
end Go.Proofs.YtpejdgiccaijfaaGreatDoor
