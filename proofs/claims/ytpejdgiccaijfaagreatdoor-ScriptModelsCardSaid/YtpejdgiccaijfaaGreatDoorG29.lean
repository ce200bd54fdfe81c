/- The journal: S -/
import Derived.Test.YtpejdgiccaijfaaGreatDoorG24
import Derived.Test.YtpejdgiccaijfaaGreatDoorG21
import Derived.Test.YtpejdgiccaijfaaGreatDoorG23
import Derived.Test.YtpejdgiccaijfaaGreatDoorG20
set_option maxRecDepth 100000
set_option maxHeartbeats 4000000
namespace Go.Proofs.YtpejdgiccaijfaaGreatDoor
open Go Go.RowKit Go.Shelf Go.Lib Go.Sort Tryz
def WT(x y:List Nat):Int:=Lib.compareInt (rseq x:Nat) (rseq y:Nat)
theorem ltR(x y:List Nat):ltOf WT x y=decide (rseq x<rseq y):=by
 unfold ltOf WT Lib.compareInt;by_cases h1:rseq x<rseq y
 .simp [h1]
 .by_cases h2:rseq y<rseq x<;>simp[h1,h2]
theorem zes:SWO (ltOf WT)where
 irrefl x:=by rw[ltR];simp
 trans x y z h1 h2:=by rw[ltR]at*;simp at*;omega
 ntrans x y z h1 h2:=by rw[ltR]at*;simp at*;omega
theorem zcS(x y:List Nat)(W:World):Calls prog 206 #[.agg (recCs x).toArray,.agg (recCs y).toArray] W fun e w'=>e=.returned (.int .i64 (WT x y))/\∃q os',w'=Go.Sort.grow (W.drewN q) os':=by
 have hcon:=fun W'=>AnyG.cmp_Compare_int RU (rseq x:Nat) (rseq y:Nat) W'
 change∀W',Calls prog 207 _ _ _ at hcon
 have hx:recCs x=[.int .i64 (rseq x:Nat),.int .i64 ((natsI x).getD 1 0),.int .i64 ((natsI x).getD 2 0),.int .i64 ((natsI x).getD 3 0),.int .i64 ((natsI x).getD 4 0),.bool ((natsI x).getD 5 0==1),.int .i64 ((natsI x).getD 6 0)]:=by
  unfold recCs dsR;rw[yG x 0];rfl
 have hy:recCs y=[.int .i64 (rseq y:Nat),.int .i64 ((natsI y).getD 1 0),.int .i64 ((natsI y).getD 2 0),.int .i64 ((natsI y).getD 3 0),.int .i64 ((natsI y).getD 4 0),.bool ((natsI y).getD 5 0==1),.int .i64 ((natsI y).getD 6 0)]:=by
  unfold recCs dsR;rw[yG y 0];rfl
 rw[hx,hy];unfold WT;generalize Lib.compareInt (rseq x:Nat) (rseq y:Nat)=r at hcon⊢;clear hx hy;go_enter func206,ntmps206
 go_wp2_with (go_at_call 207;refine(hcon _).mono ?_;rintro e w' ⟨rfl,rfl⟩)
 go_ret
 exact⟨rfl,0,_,by rw[alloc_eq_grow,alloc_eq_grow,grow_grow];rfl⟩
theorem zbb(w:World):(isAgg 307).run prog w=.ok true w:=kR
theorem ER(w:World):(Go.sizeOf 307).run prog w=.ok 7 w:=kR
def Sv(w:World)(v:Value)(L:List (List Nat))(e:Ending)(w':World):Prop:=
 e=.returned (.tuple #[])/\∃L':List (List Nat),L'.Perm L/\L'.Pairwise (fun x y=>rseq x<=rseq y)/\Sl w' 307 7 v L.length (L'.flatMap recCs)/\Upd (ownS v) w w'
theorem XH{L:List (List Nat)}{d:Array (List Nat)}(hp:PermIn 0 L.length L.toArray d)(hs:SortedIn (ltOf WT) 0 L.length d):d.size=L.length/\d.toList.Perm L/\d.toList.Pairwise (fun x y=>rseq x<=rseq y):=by
 obtain⟨h1,-,h3⟩:=hp;have h1':d.size=L.length:=by simpa using h1
 refine⟨h1',?_,?_⟩
 .have e1:d.extract 0 L.length=d:=by rw[<-h1',Array.extract_size]
  have e2:L.toArray.extract 0 L.length=L.toArray:=by rw[show L.length=L.toArray.size from by simp,Array.extract_size]
  rw[e1,e2]at h3;exact h3
 .rw [qzz];intro i j hi hj hij;simp only[qxh]at hi hj;have:=hs i j (qXy _) hij oM;rw[ltR,getElem!_pos d i hi,getElem!_pos d j hj]at this;simp only[Array.getElem_toList];exact Nat.le_of_not_lt (of_decide_eq_false this)
theorem TQ{w:World}{v:Value}{L:List (List Nat)}(h:Sl w 307 7 v L.length (L.flatMap recCs))(hl:L.length<=1024):
  Calls prog 205 #[v,.func (.func 206) #[] #[]] w (Sv w v L):=by
 have eg:∀args w,(callFunc 206 args).run prog w=.ok (.enter 206 args) w:=enters_of func206 kR rfl;have h0:=h;obtain⟨-,⟨rfl,hL⟩|⟨g,off,cap,cur,rfl,hg,-⟩⟩:=h0
 .obtain rfl:=qyb hL;refine(TJ _ w).mono ?_;rintro e w' ⟨rfl,rfl⟩;exact⟨rfl,[],List.Perm.refl _,List.Pairwise.nil,Sl.nil _ _ _,uur _ _⟩
 .have hcon:=AnyQ.slices_SortFunc Uf 7 zbb ER recCs (fun _=>rfl) (fun x=>wu (natsI x)) WT zes 206 #[] g off cap L.toArray w eg (fun m os dk _ x y=>zcS x y _) (XA (enc:=recCs) (k:=7) (fun _=>rfl) de h) (zd hg) og;simp only[qXh]at hcon
  change Calls prog 205 _ _ _ at hcon
  refine hcon.mono ?_;rintro e w' ⟨rfl,d,n,os,hp,hs,rfl⟩;obtain⟨s1,s2,s3⟩:=XH hp hs;obtain⟨t1,t2⟩:=sU (enc:=recCs) (k:=7) (fun _=>rfl) de h d s1 n os;exact⟨rfl,d.toList,s2,s3,t1,t2.mono (fun j _ e=>e▸rfl)⟩
def ES(S:Nat->Prop)(w:World)(b:Nat)(F:List Bk)(O:List (Nat×Bk))(base n:Nat)(e:Ending)(w':World):Prop:=
 ∃(v:Value) (L:List (List Nat)),e=.returned (.tuple #[v,.int .i64 0])/\L.Perm (scanTo F O base n n)/\L.Pairwise (fun x y=>rseq x<=rseq y)/\Sl w' 307 7 v L.length (L.flatMap recCs)/\From w.heap.size v/\Dv (fun j=>S j/\∀g,v.ownBlock=some g->g≠j) w' b F O []/\Upd S w w'
theorem zcT{S:Nat->Prop}{w:World}{b:Nat}{F:List Bk}{O:List (Nat×Bk)}(hd:Dv S w b F O [])(hn:∀j,w.heap.size<=j->S j)(base n:Nat)(hn1:1<=n)(hn2:n<=1024)(hbn:base+n<=F.length)(hN:Nib w)(hgS:¬S 0):
  Calls prog 135 #[.pointer (some ⟨b,0,none⟩),.int .i64 (base:Int),.int .i64 (n:Int)] w (ES S w b F O base n):=by
 have hfl:=hd.good.fl;obtain⟨w1,hw1⟩:=qqe (((w.alloc (.cells #[.pointer (some ⟨b,0,none⟩)] 38)).alloc (.cells #[.int .i64 (base:Int)] 3)).alloc (.cells #[.int .i64 (n:Int)] 3));obtain⟨A,hA⟩:=qqe (w.heap.size);have hu1:Upd (fun _=>False) w w1:=by rw[hw1];exact(((uur _ w).alloc _).alloc _).alloc _
 have z1:w1.heap.size=A+3:=by rw[hw1,hA];simp
 have e0:w1.heap[A]?=some (.cells #[.pointer (some ⟨b,0,none⟩)] 38 (0,0)):=by rw[hw1,hA];exact(qxk _ _ _ jN).trans ((qxk _ _ _ oe).trans (zc w _ rfl))
 have e1:w1.heap[A+1]?=some (.cells #[.int .i64 (base:Int)] 3 (0,0)):=by rw[hw1,hA];exact(qxk _ _ _ oe).trans (zc _ _ oe)
 have e2:w1.heap[A+2]?=some (.cells #[.int .i64 (n:Int)] 3 (0,0)):=by rw[hw1,hA];exact zc _ _ oe
 obtain⟨w2,hw2⟩:=qqe (w1.alloc (.cells #[.slice none 0 0] 215));have hu2:=qqu hw2;have z2:w2.heap.size=A+4:=by rw[hw2];simp;omega
 have e3:w2.heap[A+3]?=some (.cells #[.slice none 0 0] 215 (0,0)):=by rw[hw2];exact zc w1 _ z1.symm
 have HM:=qqh (Vh (hd.new hu1) base n hn1 hn2 hbn hfl);have HS:=qqh (Rg base n hn2 oM w2);have c0:=za e0 0;have c1:=za e1 0;have c2:=za e2 0;have hA1:=hA;have HWA:=qqh hA1;have e0':=hu2.jT e0;have e1':=hu2.jT e1;have e2':=hu2.jT e2;have hL0:=xY F O base n n;have H:=Y12 hd hn hN hgS hu1 hu2 z2 e0' e1' e2' e3 hL0;have k1:(w1.alloc (.cells #[.slice none 0 0] 215)).cell? ⟨A+1,0,none⟩=some (.int .i64 (base:Int)):=by rw[<-hw2];exact za e1' 0
 have k2:(w1.alloc (.cells #[.slice none 0 0] 215)).cell? ⟨A+1+1,0,none⟩=some (.int .i64 (n:Int)):=by rw[<-hw2];exact za e2' 0
 have k3:w1.cell? ⟨A+1,0,none⟩=some (.int .i64 (base:Int)):=za e1 0;have k4:w1.cell? ⟨A+1+1,0,none⟩=some (.int .i64 (n:Int)):=za e2 0;have HW:=Y2 hw1 hw2;have HZ1:=qqh z1;clear hd hn hN hgS hu1 hu2 z2 e0 e1 e2 e0' e1' e2' e3 hw2 hw1 c0 c1 c2 hA hA1 z1 hL0;go_enter func135,ntmps135
 go_wp2_with fail
 rw[<-HW.o.1,<-HWA.o];refine HM.o.mono ?_;rintro e w' ⟨rfl,rfl⟩;go_wp2_with fail
 rw[<-HW.o.2,HZ1.o];refine HS.o.mono ?_;rintro e w3 ⟨g,rfl,hg,hgl,hb3⟩;have z3:=hb3.size;have hub:=uuo (S:=fun _=>False) hb3;have q0:=hub.jT (H.o.2.2.2.2.2.2.2.1);have q1:=hub.jT (H.o.2.2.2.2.2.2.2.2.1);have q2:=hub.jT (H.o.2.2.2.2.2.2.2.2.2.1);have q3:=hub.jT (H.o.2.2.2.2.2.2.2.2.2.2.1);have HF:Calls prog 201 #[.slice (some ⟨g,0,none⟩) n n,.func (.func 203) #[] #[.pointer (some ⟨A,0,none⟩),.pointer (some ⟨A+2,0,none⟩),.pointer (some ⟨A+1,0,none⟩),.pointer (some ⟨A+3,0,none⟩)]] w3 fun e w'=>
   e=.returned (.int .i64 0)/\ScI (fun j=>(S j/\j<A)\/w3.heap.size<=j) w3 b (A+3) F O (scanTo F O base n n) w':=by
  obtain⟨hd,hn,hN,hgS,hu1,hu2,z2,-⟩:=H.o;have hA:=HWA.o;have hl:=zd hg;have dv3:Dv (fun j=>S j/\j<A) w3 b F O []:=(((hd.ku (T:=fun j=>S j/\j<A) (fun j h1 h2=>⟨h1,oM⟩)).new hu1).new hu2).new hub;refine zaV ⟨uur _ _,.slice none 0 0,fun j=>S j/\j<A,q3,Sl.nil _ _ _,From.nil _ _ _,dv3,fun j h=> .inl h,fun j h=>oM,fun g h=>by cases h⟩ (fun j h=> .inr h) ⟨oM,by intro h;omega⟩ ⟨za q0 0,by intro h;omega,oM⟩ ⟨za q2 0,by intro h;omega,oM⟩ ⟨za q1 0,by intro h;omega,oM⟩ ⟨hg,by intro h;omega,oM⟩ hn2 hbn (((hN.keep hu1 id).keep hu2 id).keep hub id) ⟨fun h=>?_,?_⟩
  .rcases h with h|h
   .exact hgS h.1
   .have:=hN.lt;omega
  .have:=hN.lt;omega
 have HF:=qqh HF;have HB:=Y3 hub hgl z3;clear q0 q1 q2 q3 hg hub z3 hgl hb3 k1 k2 k3 k4;go_wp2_with fail
 refine HF.o.mono ?_;rintro e w4 ⟨rfl,hi⟩;obtain⟨hu4,v,S1,p4,sl4,f4,dv4,hS1,hS2,hS3⟩:=hi;obtain⟨ao,cap,rfl⟩:=sl4.rd.jU;have c4:=za p4 0;have HSo:=qqh (TQ sl4 (qXq H.o.2.2.2.2.2.2.2.2.2.2.2 hn2));have H4:=Y7 hu4 p4 f4 dv4 hS1 hS2 hS3;clear hu4 p4 sl4 f4 dv4 hS1 hS2 hS3;go_wp2_with fail
 refine HSo.out.mono ?_;rintro e w5 ⟨rfl,L',hp,hs,sl5,hu5⟩;have hfin:(Dv (fun j=>S j/\∀g,(Value.slice ao (scanTo F O base n n).length cap).ownBlock=some g->g≠j) w5 b F O []/\Upd S w w5)/\(From w.heap.size (.slice ao (scanTo F O base n n).length cap)/\w5.cell? ⟨A+3,0,none⟩=some (.slice ao (scanTo F O base n n).length cap)):=by
  obtain⟨hd,hn,hN,hgS,hu1,hu2,z2,-⟩:=H.o;obtain⟨hub,hgl,z3⟩:=HB.o;obtain⟨hu4,p4,f4,dv4,hS1,hS2,hS3⟩:=H4.o;have hA:=HWA.o;refine⟨⟨?_,?_⟩,f4.mono oM,?_⟩
  .refine (dv4.keep hu5 (fun j h1 h2=>hS3 j h2 h1)).wide (fun j h=>⟨?_,fun g hg e=>hS3 g hg (e▸h)⟩);rcases hS1 j h with h|h
   .exact h.1
   .exact hn j oM
  .refine ((((hu1.trans hu2).mono fE).trans (hub.mono fE)).new hu4 (fun j hj h=>?_)).new hu5 (fun j hj h=>?_)
   .rcases h with(h|h)|h
    .exact h.1
    .omega
    .omega
   .have:=f4 j h;omega
  .refine hu5.jS c4 (fun h=>?_);have:=f4 _ h;omega
 have c5:=hfin.2.2;have HFin:=Y4 hfin hp hs sl5;have hpl:=hp.length_eq;clear hfin hp hs sl5 hu5 c4;go_wp2_with fail
 refine qYp (v:=.tuple #[.slice ao (scanTo F O base n n).length cap,.int .i64 0]) (by simp[results,results135,go_sem]) rfl ?_;exact⟨_,L',rfl,HFin.out.2.1,HFin.out.2.2.1,by rw[hpl];have:=HFin.out.2.2.2;exact this,HFin.out.1.2.1,HFin.out.1.1.1,HFin.out.1.1.2⟩
def WU(x y:EI):Int:=Lib.compareInt x.b y.b
theorem ltE(x y:EI):ltOf WU x y=decide (x.b<y.b):=by
 unfold ltOf WU Lib.compareInt;by_cases h1:x.b<y.b
 .simp [h1]
 .by_cases h2:y.b<x.b<;>simp[h1,h2]
theorem zet:SWO (ltOf WU)where
 irrefl x:=by rw[ltE];simp
 trans x y z h1 h2:=by rw[ltE]at*;simp at*;omega
 ntrans x y z h1 h2:=by rw[ltE]at*;simp at*;omega
theorem zbc(x y:EI)(W:World):Calls prog 209 #[.agg x.cs.toArray,.agg y.cs.toArray] W fun e w'=>e=.returned (.int .i64 (WU x y))/\∃q os',w'=Go.Sort.grow (W.drewN q) os':=by
 have hcon:=fun W'=>AnyG.cmp_Compare_int RU x.b y.b W'
 change∀W',Calls prog 207 _ _ _ at hcon
 obtain⟨a,b,c,d⟩:=x;obtain⟨a',b',c',d'⟩:=y;unfold WU EI.cs;dsimp only at hcon⊢;generalize Lib.compareInt a a'=r at hcon⊢;go_enter func209,ntmps209
 go_wp2_with (go_at_call 207;refine(hcon _).mono ?_;rintro e w' ⟨rfl,rfl⟩)
 go_ret
 exact⟨rfl,0,_,by rw[alloc_eq_grow,alloc_eq_grow,grow_grow];rfl⟩
theorem zbd(w:World):(isAgg 155).run prog w=.ok true w:=kR
theorem ET(w:World):(Go.sizeOf 155).run prog w=.ok 4 w:=kR
def Sw(w:World)(v:Value)(L:List EI)(e:Ending)(w':World):Prop:=
 e=.returned (.tuple #[])/\∃L':List EI,L'.Perm L/\L'.Pairwise (fun x y=>x.b<=y.b)/\Sl w' 155 4 v L.length (L'.flatMap EI.cs)/\Upd (ownS v) w w'
theorem Ya{L:List EI}{d:Array EI}[Inhabited EI](hp:PermIn 0 L.length L.toArray d)(hs:SortedIn (ltOf WU) 0 L.length d):d.toList.Perm L/\d.size=L.length/\d.toList.Pairwise (fun x y=>x.b<=y.b):=by
 obtain⟨h1,-,h3⟩:=hp;have h1':d.size=L.length:=by simpa using h1
 refine⟨?_,h1',?_⟩
 .have e1:d.extract 0 L.length=d:=by rw[<-h1',Array.extract_size]
  have e2:L.toArray.extract 0 L.length=L.toArray:=by rw[show L.length=L.toArray.size from by simp,Array.extract_size]
  rw[e1,e2]at h3;exact h3
 .rw [qzz];intro i j hi hj hij;simp only[qxh]at hi hj;have:=hs i j (qXy _) hij oM;rw[ltE,getElem!_pos d i hi,getElem!_pos d j hj]at this;simp only[Array.getElem_toList];exact Int.not_lt.1 (of_decide_eq_false this)
instance:Inhabited EI:=⟨EI.zero⟩
theorem TR{w:World}{v:Value}{L:List EI}(h:Sl w 155 4 v L.length (L.flatMap EI.cs))(hl:L.length<=1048576):
  Calls prog 208 #[v,.func (.func 209) #[] #[]] w (Sw w v L):=by
 have eg:∀args w,(callFunc 209 args).run prog w=.ok (.enter 209 args) w:=enters_of func209 kR rfl;have h0:=h;obtain⟨-,⟨rfl,hL⟩|⟨g,off,cap,cur,rfl,hg,-⟩⟩:=h0
 .obtain rfl:=qyb hL;refine(TK _ w).mono ?_;rintro e w' ⟨rfl,rfl⟩;exact⟨rfl,[],List.Perm.refl _,List.Pairwise.nil,Sl.nil _ _ _,uur _ _⟩
 .have hcon:=AnyQ.slices_SortFunc Ug 4 zbd ET EI.cs (fun _=>rfl) EI.one WU zet 209 #[] g off cap L.toArray w eg (fun m os dk _ x y=>zbc x y _) (XA (enc:=EI.cs) (k:=4) (fun _=>rfl) de h) (zd hg) og;simp only[qXh]at hcon
  change Calls prog 208 _ _ _ at hcon
  refine hcon.mono ?_;rintro e w' ⟨rfl,d,n,os,hp,hs,rfl⟩;obtain⟨s2,s1,s3⟩:=Ya hp hs;obtain⟨t1,t2⟩:=sU (enc:=EI.cs) (k:=4) (fun _=>rfl) de h d s1 n os;exact⟨rfl,d.toList,s2,s3,t1,t2.mono (fun j _ e=>e▸rfl)⟩
end Go.Proofs.YtpejdgiccaijfaaGreatDoor
namespace Go.Proofs.YtpejdgiccaijfaaGreatDoor
open Go Go.RowKit Go.Shelf Go.Lib Tryz
theorem EU(w:World):(zeroValue 155).run prog w=.ok EI.zero.enc w:=kR
theorem Yb:(prog.info? 155).map (·.size)=some 4:=kR
theorem zbe(b s:Int)(d:Bool)(x:Int)(W:World):(Instr.build 155 #[(0,.int .i64 b),(1,.int .i64 s),(2,.bool d),(3,.int .i64 x)]).run prog W=.ok (.agg #[.int .i64 b,.int .i64 s,.bool d,.int .i64 x]) W:=by
 kernel_rfl
def zcU(w:World)(l:List EI)(rs:List (List Int))(e:Ending)(w':World):Prop:=
 ∃(v:Value) (L:List EI) (c:Int),e=.returned (.tuple #[v,.int .i64 c])/\Sl w' 155 4 v L.length (L.flatMap EI.cs)/\From w.heap.size v/\Below w.heap.size w w'/\
  ((c=12/\L=[]/\(¬(l.map EI.b).Nodup\/∃L0,Lists (apRs (apM l) rs) L0/\¬(L0.map EI.s).Nodup))\/
   (c=0/\(l.map EI.b).Nodup/\Lists (apRs (apM l) rs) L/\(L.map EI.s).Nodup/\L.Pairwise (fun x y=>x.b<y.b)))
theorem zbf{w:World}{v u:Value}{l:List EI}{rs:List (List Int)}(hs:Rd w 4 v l.length (l.flatMap EI.cs))(hr:Rd w 7 u rs.length (rs.flatMap dsR))(hl1:l.length<=65536)(hr1:rs.length<=65536)
  (hl:∀e∈l,Jc e.b/\Jc e.s) (hrr:∀r∈rs,Jc (r.getD 3 0)/\Jc (r.getD 4 0)):
  Calls prog 137 #[v,u] w (zcU w l rs):=by
 obtain⟨ao,cap,rfl⟩:=hs.jU;obtain⟨bo,cbp,rfl⟩:=hr.jU;have hmm:= @run_makeMap prog;obtain⟨M,hM⟩:=qqe (w.heap.size);obtain⟨w1,hw1⟩:=qqe (w.alloc (.map #[] 0));have hb1:Below w.heap.size w w1:=by rw[hw1];exact(qxl _ w).alloc (qXo _) _
 have hm1:MapG EI.enc w1 M 0 (apM []):=by rw[hw1,hM];exact MapG.made w
 have z1:w1.heap.size=M+1:=by rw[hw1,hM];simp
 have HW:=Y2 hw1 hM;have H:=Y7 hs hr hl hrr hb1 hm1 z1;clear hs hr hl hrr hb1 hm1 z1 hw1 hM;go_enter func137,ntmps137
 go_wp2_with fail
 rw[<-HW.o.1,<-HW.o.2];clear hmm;go_loopg[20] l.length (fun gk s20 wr=>∃k:Nat,k+gk=l.length/\s20=.int .i64 (k:Int)/\MapG EI.enc wr M k (apM (l.take k))/\((l.take k).map EI.b).Nodup/\Below w.heap.size w wr)
 case atStart=>exact⟨0,oM,rfl,H.o.2.2.2.2.2.1,qzx,H.o.2.2.2.2.1⟩
 case round=>
  obtain⟨k,hk,rfl,hm,hnd,hb⟩:=hrel;by_cases hlt:k<l.length
  .have k1:(k:Int)<(l.length:Int):=oM;have k0:(0:Int)<=(k:Int):=oM;obtain⟨g,o,cp,e,hgl,hcell⟩:=H.o.1.at oM;cases e;have hx:=yI (enc:=EI.cs) (m:=4) (fun _=>rfl) hcell hlt;have hin:=H.o.2.2.1 _ (qyu hlt);have hnx:=RQ l hlt;have hn1:= @WH l k hlt hnd;have hn2:= @TG l k hlt;obtain⟨x,hxx⟩:=qqe (l[k]);rw[<-hxx]at hx hin hnx hn1 hn2;have hrow:wr.rangeAt g (o+k*4) x.cs:=Below.range hb hx;obtain⟨cs,hcs⟩:=qqe (x.cs);rw[<-hcs]at hrow;obtain⟨w2,hw2⟩:=qqe (wr.alloc (.cells cs.toArray 155));have hu2:=qqu hw2;have g2:w2.heap[wr.heap.size]?=some (.cells x.cs.toArray 155 (0,0)):=by rw[hw2,hcs];exact zc wr _ rfl
   obtain⟨q,hq⟩:=qqe (wr.heap.size);rw[<-hq]at g2;have e2:w2.cell? ⟨q,0,none⟩=some (.int .i64 x.b):=za g2 0;have r2:=zg g2;rw[<-hcs]at r2;have hm2:=hm.keep hu2 id;have hlk:=hm2.look EI.enc_inj underlying313 (EU w2) hin.1.1 hin.1.2;obtain⟨y,hy⟩:=qqe ((apM (l.take k) x.b).getD EI.zero);obtain⟨ok,hok⟩:=qqe ((apM (l.take k) x.b).isSome);rw[<-hy,<-hok]at hlk;rw[<-hok]at hn1 hn2;unfold EI.enc at hlk;have hy1:=y.one;have hyl:y.cs.length=4:=rfl;obtain⟨ys,hys⟩:=qqe (y.cs);rw[<-hys]at hlk hy1 hyl;have hb2:=hb.trans ((Upd.below hu2).mono hb.size);have hcl:cs.length=4:=by rw[hcs];rfl
   have hc1:∀v∈cs,v.oneCell'=true:=by rw[hcs];exact x.one
   have hci:(prog.info? 155).map (·.size)=some cs.length:=by rw[hcl];exact Yb
   have hyi:(prog.info? 155).map (·.size)=some ys.length:=by rw[hyl];exact Yb
   have HX:=Y4 hcl hci hc1 r2;have HY:=Y4 hyl hyi hy1 hys;have HW2:=Y3 hw2 hq hcs;have HK:=Y7 hm2 hb2 hnx hn1 hn2 hin hnd;clear hm hnd hb hcell hx hin hnx hn1 hn2 hxx hcs hw2 hu2 g2 hq r2 hm2 hy hok hy1 hyl hys hb2 hcl hc1 hci hyi hgl;go_wp2_with (first
    |(refine qYy rfl 155 _ rfl _ _ rfl _ _ hrow underlying155 rfl HX.o.2.1 ?_)
    |(refine zk rfl _ _ _ rfl _ _ cs rfl rfl jL HX.o.2.1 HX.o.2.2.1 ?_;refine Stop.i ?_)
    |fail)
   rw[<-HW2.o.1,<-HW2.o.2.1];unfold Stop;clear hrow;go_wp2_with (first
    |(refine zk rfl _ _ _ rfl _ _ ys rfl rfl (by rw[HY.o.1];rfl) HY.o.2.1 HY.o.2.2.1 ?_;refine Stop.i ?_)
    |fail)
   obtain⟨w3,hw3⟩:=qqe (w2.alloc (.cells ys.toArray 155));rw[<-hw3];have hu3:=qqu hw3;clear hlk;have e3:=hu3.jS e2 id;have r3:=hu3.range HX.o.2.2.2 id;have hm3:=HK.o.1.keep hu3 id;have hb3:=HK.o.2.1.trans ((Upd.below hu3).mono HK.o.2.1.size);clear e2;cases ok with
   |true=>
    have HR:=Y2 hb3 (HK.o.2.2.2.2.1 rfl);clear hm3 hb3 hu3 hw3;unfold Stop;go_wp2_with fail
    refine qYp (v:=.tuple #[.slice none 0 0,.int .i64 12]) jc rfl ?_;exact⟨_,[],12,rfl,Sl.nil _ _ _,From.nil _ _ _,HR.o.1,.inl ⟨rfl,rfl,.inl HR.o.2⟩⟩
   |false=>
    obtain⟨w4,hst,hm4,hu4,z4⟩:=hm3.store EI.enc_inj underlying313 HK.o.2.2.2.2.2.1.1.1 HK.o.2.2.2.2.2.1.1.2 x (show k<maxLen by unfold maxLen;omega);unfold EI.enc at hst;rw[<-HW2.o.2.2]at hst;have hMlt:=HK.o.1.lt;have hb4:Below w.heap.size w w4:=zj hb3 hu4 (qXo _) (fun j hj=>by rw[hj,HW.o.2];exact qXo _);have HR:=Y3 hm4 hb4 (HK.o.2.2.2.1 rfl);clear hm3 hb3 hu3 hw3 hm4 hu4 z4 hb4;unfold Stop;go_wp2_with (first
     |(refine qYy rfl 155 _ rfl _ _ rfl _ _ r3 underlying155 rfl HX.o.2.1 ?_)
     |fail)
    go_roundg (gk-1)
    case measure=>omega
    case rel=>
     refine⟨k+1,oM,by go_num,?_,HR.o.2.2,HR.o.2.1⟩;rw[HK.o.2.2.1];exact HR.o.1
  .obtain rfl:k=l.length:=oM;have k1:¬((l.length:Int)<(l.length:Int)):=oM;rw[qXj (qXo _)]at hm hnd;have hM:=HW.o.2;obtain⟨wA,hwA⟩:∃wA:World,wA=wr:=⟨_,rfl⟩
   rw[<-hwA]at hm hb⊢;have H1:=Y3 hm hnd hb;clear hm hnd hb hM hwA hk;go_wp2_with fail
   obtain⟨gk1,hgk1⟩:∃x,x=gk:=⟨_,rfl⟩
   clear hgk1;go_loopg[39] rs.length (fun gk s39 wr=>∃k:Nat,k+gk=rs.length/\s39=.int .i64 (k:Int)/\MapG EI.enc wr M (l.length+k) (apRs (apM l) (rs.take k))/\Below w.heap.size w wr)
   case atStart=>exact⟨0,oM,rfl,H1.o.1,H1.o.2.2⟩
   case round=>
    obtain⟨k,hk,rfl,hm,hb⟩:=hrel;by_cases hlt2:k<rs.length
    .have k2:(k:Int)<(rs.length:Int):=oM;have k0:(0:Int)<=(k:Int):=oM;obtain⟨g,o,cp,e,hgl,hcell⟩:=H.o.2.1.at oM;cases e;have hx:=yI (enc:=dsR) (m:=7) (fun _=>rfl) hcell hlt2;have hin:=H.o.2.2.2.1 _ (qyu hlt2);have hnx:=TH (apM l) rs hlt2;obtain⟨x,hxx⟩:=qqe (rs[k]);rw[<-hxx]at hx hin hnx;have hrow:wr.rangeAt g (o+k*7) (dsR x):=Below.range hb hx;obtain⟨cs,hcs⟩:=qqe (dsR x);rw[<-hcs]at hrow;obtain⟨w2,hw2⟩:=qqe (wr.alloc (.cells cs.toArray 307));have hu2:=qqu hw2;have g2:w2.heap[wr.heap.size]?=some (.cells (dsR x).toArray 307 (0,0)):=by rw[hw2,hcs];exact zc wr _ rfl
     obtain⟨q,hq⟩:=qqe (wr.heap.size);rw[<-hq]at g2;have e2:w2.cell? ⟨q,2,none⟩=some (.int .i64 (x.getD 2 0)):=za g2 2;have e3:w2.cell? ⟨q,3,none⟩=some (.int .i64 (x.getD 3 0)):=za g2 3;have e4:w2.cell? ⟨q,4,none⟩=some (.int .i64 (x.getD 4 0)):=za g2 4;have e5:w2.cell? ⟨q,5,none⟩=some (.bool (x.getD 5 0==1)):=za g2 5;have e6:w2.cell? ⟨q,6,none⟩=some (.int .i64 (x.getD 6 0)):=za g2 6;obtain⟨kd,hkd⟩:∃y,y=x.getD 2 0:=⟨_,rfl⟩
     obtain⟨xb,hxb⟩:∃y,y=x.getD 3 0:=⟨_,rfl⟩
     obtain⟨xs,hxs⟩:∃y,y=x.getD 4 0:=⟨_,rfl⟩
     obtain⟨xd,hxd⟩:∃y,y=(x.getD 5 0==1):=⟨_,rfl⟩
     obtain⟨xm,hxm⟩:∃y,y=x.getD 6 0:=⟨_,rfl⟩
     rw[<-hkd]at e2;rw[<-hxb]at e3 hin;rw[<-hxs]at e4;rw[<-hxd]at e5;rw[<-hxm]at e6;have hre:recE x=⟨xb,xs,xd,xm⟩:=by rw[hxb,hxs,hxd,hxm];rfl
     have hap:apR (apRs (apM l) (rs.take k)) x=fun s=>if s=xb then(if kd=0 then some ⟨xb,xs,xd,xm⟩else none)else(apRs (apM l) (rs.take k)) s:=by
      unfold apR;rw[hre,<-hxb,<-hkd]
     have hm2:=hm.keep hu2 id;have hb2:=hb.trans ((Upd.below hu2).mono hb.size);have hcl:cs.length=7:=by rw[hcs];rfl
     have hc1:∀v∈cs,v.oneCell'=true:=by rw[hcs];exact wu x
     have hci:(prog.info? 307).map (·.size)=some cs.length:=by rw[hcl];exact infoThR
     have HX:=Y3 hcl hci hc1;have HW2:=Y2 hw2 hq;rw[hap]at hnx;have HK:=Y4 hm2 hb2 hnx hin;clear hm hb hcell hx hin hnx hxx hcs hw2 hu2 g2 hq hm2 hb2 hcl hc1 hci hgl hre hap hkd hxb hxs hxd hxm;go_wp2_with (first
      |(refine qYy rfl 307 _ rfl _ _ rfl _ _ hrow underlying307 rfl HX.o.2.1 ?_)
      |(refine zk rfl _ _ _ rfl _ _ cs rfl rfl jL HX.o.2.1 HX.o.2.2 ?_;refine Stop.i ?_)
      |fail)
     rw[<-HW2.o.1,<-HW2.o.2];clear hrow;by_cases hz:kd=0
     .obtain ⟨w4,hst,hm4,hu4,z4⟩:=HK.o.1.store EI.enc_inj underlying313 HK.o.2.2.2.1.1 HK.o.2.2.2.1.2 ⟨xb,xs,xd,xm⟩ (show l.length+k<maxLen by unfold maxLen;omega);have hst':(Instr.mapUpdate 313 (.map (some M)) (.int .i64 xb) (.agg #[.int .i64 xb,.int .i64 xs,.bool xd,.int .i64 xm])).run prog w2=.ok () w4:=hst;have hb4:Below w.heap.size w w4:=zj HK.o.2.1 hu4 (qXo _) (fun j hj=>by rw[hj,HW.o.2];exact qXo _);have hnx:=HK.o.2.2.1;simp only[if_pos hz]at hnx;have hbe:=zbe xb xs xd xm w2;have HR:=Y3 hm4 hb4 hnx;clear hm4 hu4 z4 hb4 hst hnx;subst hz;unfold Stop;go_wp2_with fail
      go_roundg (gk-1)
      case measure=>omega
      case rel=>
       refine⟨k+1,oM,by go_num,?_,HR.o.2.1⟩;rw[HR.o.2.2];exact HR.o.1
     .obtain ⟨w4,hst,hm4,hu4,z4⟩:=HK.o.1.drop underlying313 HK.o.2.2.2.1.1 HK.o.2.2.2.1.2 0;have hb4:Below w.heap.size w w4:=zj HK.o.2.1 hu4 (qXo _) (fun j hj=>by rw[hj,HW.o.2];exact qXo _);have hnx:=HK.o.2.2.1;simp only[if_neg hz]at hnx;have HR:=Y3 hm4 hb4 hnx;clear hm4 hu4 z4 hb4 hnx;unfold Stop;go_wp2_with fail
      go_roundg (gk-1)
      case measure=>omega
      case rel=>
       refine⟨k+1,oM,by go_num,?_,HR.o.2.1⟩;rw[HR.o.2.2];exact HR.o.1.mono oM
    .obtain rfl:k=rs.length:=oM;have k2:¬((rs.length:Int)<(rs.length:Int)):=oM;rw[qXj (qXo _)]at hm;have hmm:= @run_makeMap prog;obtain⟨M2,hM2⟩:=qqe (wr.heap.size);obtain⟨w5,hw5⟩:=qqe (wr.alloc (.map #[] 0));have hu5:=qqu hw5;have hm5:MapC (Value.int .i64) w5 M2 0 (takenF []) 0:=by rw[hw5,hM2];exact MapC.made wr
     have hm6:=hm.keep hu5 id;have hm6x:=hm6;rw[hw5]at hm6x;have hb5:=hb.trans ((Upd.below hu5).mono hb.size);have hlt5:M2<w5.heap.size:=hm5.g.lt;have z5:w5.heap.size=M2+1:=by rw[hw5,hM2];simp
     have hMs:M<M2:=by have:=hm.lt;omega
     have HW5:=Y2 hw5 hM2;have H2:=Y5 hm5 hm6 hb5 hMs z5;have HRx:=qqh hm6x;clear hm hb hw5 hu5 hm5 hm6 hb5 hlt5 hMs hM2 hk hm6x z5;go_wp2_with (first
      |(at_range;refine xB rfl _ 313 rfl underlying313 rfl HRx.out ?_;intro w6 hrg hu6 z6;refine Stop.i ?_)
      |fail)
     rw[<-HW5.o.1]at hrg hu6 z6
     try rw[<-HW5.o.1]
     rw[H2.o.2.2.2.2]at hrg z6;rw[<-HW5.o.2];obtain⟨cnt,hcN,hrg⟩:=hrg;obtain⟨F,hF⟩:=qqe (apRs (apM l) rs);have hFb:AtB F:=by rw[hF];exact Ew rs _ (zaQ l)
     have hFi:∀s e,F s=some e->Jc e.b/\Jc e.s:=by
      rw[hF];exact RS (p:=fun e=>Jc e.b/\Jc e.s) H.o.2.2.1 (fun r hr=>H.o.2.2.2.1 r hr)
     rw[<-hF]at hrg;have hRM:M2+1=M2+1:=rfl;have hb6:Below w.heap.size w w6:=H2.o.2.2.1.trans ((Upd.below hu6).mono H2.o.2.2.1.size);have hmc6:=H2.o.1.keep hu6 id;have H3:=Y9 hF hFb hFi hRM hb6 hmc6 hcN hrg H2.o.2.2.2.1;clear hF hFb hFi hRM hb6 hmc6 hcN hrg hu6 z6 hmm;unfold Stop;go_wp2_with fail
     obtain⟨gk2,hgk2⟩:∃x,x=gk:=⟨_,rfl⟩
     clear hgk2;go_loopg[14] cnt (fun gk s14 wr=>∃(L:List EI) (left:Int->Bool) (c:Nat),L.length+gk<=cnt/\ZH EI.enc wr M (M2+1) (l.length+rs.length) F left gk/\MapC (Value.int .i64) wr M2 L.length (takenF L) c/\c<=L.length/\(c=L.length↔(L.map EI.s).Nodup)/\
      Sl wr 155 4 s14 L.length (L.flatMap EI.cs)/\From (M2+2) s14/\Below w.heap.size w wr/\(L.map EI.b).Nodup/\∀e,e∈L↔F e.b=some e/\left e.b=false)
     case atStart=>exact⟨[],_,0,oe,H3.o.2.2.2.2.2.2.2.1,H3.o.2.2.2.2.2.1,qXo _,oe,Sl.nil _ _ _,From.nil _ _ _,H3.o.2.2.2.2.1,qzx,fun e=>⟨fun h=>(by cases h),fun h=>(by have h1:=h.2;rw[h.1]at h1;cases h1)⟩⟩
     case round=>
      obtain⟨L,left,c,hLg,hrg,hmc,hc1,hc2,hsl,hf,hb,hLb,hLm⟩:=hrel;have HL:=Y10 hLg hmc hc1 hc2 hsl hf hb hLb hLm hrg;clear hLg hmc hc1 hc2 hsl hf hb hLb hLm;go_wp2_with (first
       |(at_next;refine xM rfl _ rfl rfl hrg (fun hl0=>Stop.i ?_) (fun x en w7 hlx hfx hcc hu7 hs7 hen=>Stop.i ?_))
       |fail)
      .obtain ⟨hLg,hmc,hcl,hc2,hsl,hf,hb,hLb,hLm,-⟩:=HL.o;clear hrg;obtain⟨ao3,cc3,rfl⟩:=hsl.rd.jU;have hLi:Lists F L:=⟨hLb,fun e=>(hLm e).trans ⟨fun h=>h.1,fun h=>⟨h,hl0 _⟩⟩⟩
       have hlen:=hmc.len underlying168 3;have hLN:L.length<=131072:=by have:=H3.o.2.2.2.2.2.2.1;omega
       have HSo:=qqh (TR hsl oM);have hMw:M=w.heap.size:=HW.o.2;have hMM:=H3.o.2.2.2.2.2.2.2.2;have hFw:From w.heap.size (.slice ao3 L.length cc3):=hf.mono oM;have HE:=Y5 hLi hc2 hFw hb hLb;have HcL:=qqh hcl;clear hLg hmc hcl hc2 hsl hf hb hLb hLm hl0 hMw hMM hFw hLi;unfold Stop;by_cases hcc:c=L.length
       .have HCC:=qqh hcc;have hci:((c:Nat):Int)=(L.length:Int):=by rw[hcc]
        clear hcc;go_wp2_with fail
        refine HSo.out.mono ?_;rintro e w9 ⟨rfl,L',hp,hs,sl9,hu9⟩;have hb9:Below w.heap.size w w9:=zj HE.o.2.2.2.1 hu9 (qXo _) (fun j hj=>HE.o.2.2.1 j hj);have HFin:=Y4 hp hs sl9 hb9;clear hp hs sl9 hu9 hb9;go_wp2_with fail
        refine qYp (v:=.tuple #[.slice ao3 L.length cc3,.int .i64 0]) jc rfl ?_;obtain⟨hp,hs,sl9,hb9⟩:=HFin.out;have hpl:=hp.length_eq;refine⟨_,L',0,rfl,by rw[hpl];exact sl9,HE.o.2.2.1,hb9,.inr ⟨rfl,H1.o.2.1,?_,?_,TI hp HE.o.2.2.2.2 hs⟩⟩
        .rw [<-H3.o.1];exact WJ HE.o.1 hp
        .exact (hp.map EI.s).nodup_iff.2 (HE.o.2.1.1 HCC.o)
       .have HCC:=qqh hcc;have hci:¬((c:Nat):Int)=(L.length:Int):=oM;clear hcc;go_wp2_with fail
        refine qYp (v:=.tuple #[.slice none 0 0,.int .i64 12]) jc rfl ?_;exact⟨_,[],12,rfl,Sl.nil _ _ _,From.nil _ _ _,HE.o.2.2.2.1,.inl ⟨rfl,rfl,.inr ⟨L,by rw[<-H3.o.1];exact HE.o.1,fun h=>HCC.o (HE.o.2.1.2 h)⟩⟩⟩
      .clear hrg;obtain⟨cnt',hc',hrg1⟩:=hcc;have heb:=H3.o.2.1 x en hfx;have hei:=(H3.o.2.2.1 x en hfx).2;have hen1:=en.one;unfold EI.enc at hen⊢;obtain⟨cs,hcs⟩:=qqe (en.cs);rw[<-hcs]at hen hen1;rw[<-hcs];obtain⟨w8,hw8⟩:=qqe (w7.alloc (.cells cs.toArray 155));have hu8:=qqu hw8;have g8:w8.heap[w7.heap.size]?=some (.cells en.cs.toArray 155 (0,0)):=by rw[hw8,hcs];exact zc w7 _ rfl
       obtain⟨q,hq⟩:=qqe (w7.heap.size);rw[<-hq]at g8;have e8:w8.cell? ⟨q,1,none⟩=some (.int .i64 en.s):=za g8 1;have r8:=zg g8;rw[<-hcs]at r8;obtain⟨hLg,hmc,hcl,hc2,hsl,hf,hb,hLb,hLm,hrg⟩:=HL.o;have hMM:=H3.o.2.2.2.2.2.2.2.2;have hRlt:=hrg1.lt.2;have hmc8:=(hmc.keep hu7 oM).keep hu8 id;have hlk:=hmc8.g.look1 (enc:=Value.int .i64) (fun x y h=>by injection h) underlying168 (z0:=0) (Qu w8) hei.1 hei.2;rw[Xz]at hlk;have hkl:=Ey L en.s;obtain⟨kc,hkc⟩:=qqe (cntS L en.s);rw[<-hkc]at hlk hkl;have hLN:L.length<=131072:=by have:=H3.o.2.2.2.2.2.2.1;omega
       have hwr:IntKind.i64.wrap ((kc:Int)+1)=(kc:Int)+1:=qxu _ oM;obtain⟨w9,hst,hmc9,hu9,z9⟩:=hmc8.store (enc:=Value.int .i64) (fun x y h=>by injection h) underlying168 hei.1 hei.2 ((kc:Int)+1) (show L.length<maxLen by unfold maxLen;omega);have hqM:q≠M2:=oM;have r9:=hu9.range r8 hqM;have hsl8:=(hsl.keep hu7 (fun g hg h=>by have:=hf g hg;omega)).keep hu8 (fun _ _ h=>h);have hsl9:=hsl8.keep hu9 (fun g hg h=>by have:=hf g hg;omega);have hcnt:=RT en hcl hc2;have hstep:=WI hfx heb hlx hLb hLm;have htk:=Xx L en;rw[<-hkc]at htk;have hb9:Below w.heap.size w w9:=zj (zj (zj hb hu7 (qXo _) (fun j hj=>by have:=HW.o.2;omega)) hu8 (qXo _) (fun j hj=>hj.elim)) hu9 (qXo _) (fun j hj=>by have:=HW.o.2;omega);have hrg9:=(hrg1.keep hu8 id id).keep hu9 (show¬M=M2 by omega) (show¬M2+1=M2 by omega);have hcs4:cs.length=4:=by rw[hcs];rfl
       have hci:(prog.info? 155).map (·.size)=some cs.length:=by rw[hcs4];exact Yb
       have z9':M2+2<=w9.heap.size:=by have:=hrg9.lt.2;omega
       rw[<-htk]at hmc9;obtain⟨ie,ze,hie,hze,hz4,hi4,hi32⟩:=XC;have HI:=Y5 hie hze hz4 hi4 hi32;have hm1:Hid (L.length+1<=maxLen):=by show _<=_;unfold maxLen;omega
       have hm2:Hid ((L.length+1)*32<=140737488355328):=by show _<=_;omega
       have HX:=Y4 hcs4 hci hen1 hcs;have HW8:=Y2 hw8 hq;have HB:=Y10 hsl9 hf hb9 hrg9 hmc9 hcnt hstep z9' hLg hc';clear hLg hmc hcl hc2 hsl hf hb hLb hLm hrg hRlt hmc8 hkc hu9 z9 hqM hsl8 hsl9 hcnt hstep htk hb9 hrg9 hrg1 hc' hcs4 hci z9' hmc9 hie hze hz4 hi4 hi32 hen1 hcs hw8 hq hu8 g8 hu7 hs7 heb hei hlx hfx hMM r8;unfold Stop;go_wp2_with (first
        |(refine zk rfl _ _ _ rfl _ _ cs rfl rfl jL HX.o.2.1 HX.o.2.2.1 ?_;refine Stop.i ?_)
        |fail)
       rw[<-HW8.o.1,<-HW8.o.2];unfold Stop;go_wp2_with (first
        |(refine qYy rfl 155 _ rfl _ _ rfl _ _ r9 underlying155 rfl HX.o.2.1 ?_)
        |(refine ym rfl 146 155 _ rfl 4 de underlying146 ⟨ie,ze,HI.o.1,HI.o.2.1,HI.o.2.2.1,HI.o.2.2.2.1⟩ de cs rfl HX.o.1 ?_)
        |(at_builtin;refine zG rfl _ _ 146 rfl ie ze 32 underlying146 HI.o.1 HI.o.2.1 HI.o.2.2.2.1 HI.o.2.2.2.2 HI.o.2.2.1 de rfl HB.o.1 cs rfl HX.o.1 HX.o.2.2.1 hm1.out hm2.out ?_;intro v' w10 hs10 hu10 hb10;obtain⟨ao',cc',rfl⟩:=hs10.rd.jU;refine Stop.i ?_)
        |fail)
       unfold Stop;have hu10':Upd (ownS u14) w9 w10:=hu10;have hb10':blockFrom w9 u14 (.slice ao' (L.length+1) cc'):=hb10;clear hu10 hb10;have hf9:From (M2+2) (.slice ao' (L.length+1) cc'):=hb10'.ge HB.o.2.2.2.2.2.2.2.1 HB.o.2.1;have hrg10:=HB.o.2.2.2.1.keep hu10' (fun h=>by have:=HB.o.2.1 _ h;have:=H3.o.2.2.2.2.2.2.2.2;omega) (fun h=>by have:=HB.o.2.1 _ h;omega);have hmc10:=HB.o.2.2.2.2.1.keep hu10' (fun h=>by have:=HB.o.2.1 _ h;omega);have hb10:Below w.heap.size w w10:=zj HB.o.2.2.1 hu10' (qXo _) (fun j hj=>by have:=HB.o.2.1 _ hj;have:=HW.o.2;have:=H3.o.2.2.2.2.2.2.2.2;omega);have hs10':Sl w10 155 4 (.slice ao' (L.length+1) cc') (L++[en]).length ((L++[en]).flatMap EI.cs):=by
        simp only[qyy,qyd,qye,List.flatMap_nil,qxx,qyz,qzc];rw[<-HX.o.2.2.2];exact hs10
       have HN:=Y5 hf9 hrg10 hmc10 hb10 hs10';clear hf9 hrg10 hmc10 hb10 hs10' hs10 hu10' hb10' hst hlk hen r9 e8 hwr;go_wp2_with fail
       go_roundg cnt'
       case measure=>exact HB.o.2.2.2.2.2.2.2.2.2
       case rel=>
        refine⟨L++[en],_,_,?_,HN.o.2.1,?_,HB.o.2.2.2.2.2.1.1,HB.o.2.2.2.2.2.1.2,HN.o.2.2.2.2,HN.o.1,HN.o.2.2.2.1,HB.o.2.2.2.2.2.2.1.1,HB.o.2.2.2.2.2.2.1.2⟩
        .have h1:=HB.o.2.2.2.2.2.2.2.2.1;have h2:=HB.o.2.2.2.2.2.2.2.2.2;simp only[qyy,qyz,qzc];omega
        .simp only[qyy,qyz,qzc];exact HN.o.2.2.1
end Go.Proofs.YtpejdgiccaijfaaGreatDoor
