/- A cache's inde -/
import Derived.Test.YtfhfbpmlnjdfoaaGreatDoorG16
set_option maxRecDepth 100000
set_option maxHeartbeats 16000000
namespace Go.Proofs.YtfhfbpmlnjdfoaaGreatDoor
open Go Go.RowKit Tryz
theorem Ec(ps:List (Int×Bool))(slots:Nat)(k s:Int)(d:Bool):(putL ps slots k s d).length=ps.length:=by unfold putL;split<;>simp
theorem Rq(ps:List (Int×Bool))(k:Int):(dropL ps k).length=ps.length:=by unfold dropL;split<;>simp
theorem To(ps:List (Int×Bool))(k:Int):(cleanL ps k).length=ps.length:=by unfold cleanL;split<;>simp
theorem Xm(l:List Int)(s t:Int):(turnList l s t).length=l.length:=by unfold turnList;split<;>simp
section
variable{own:Nat->Nat}{w w':World}{c:Nat}{n:CaN}{p:CaP}{a:CaS}
theorem ri(h:CaAt own w c n p a)(k:Int):
  Calls prog 100 #[ptr p.ix,.int .i64 k] w (zv own w c n p a (.tuple #[zM (getV a.ps k).1 (getV a.ps k).2,.int .i64 (getC a.ps k)])):=by
 obtain⟨v,mb,hi,-,-⟩:=h.ix;exact(uH hi k).mono fun _ _ ⟨he,hb⟩=>⟨he,own,h.new (uuo hb),h.ki (uuo hb)⟩
theorem Rr(h:CaAt own w c n p a)(k s:Int)(d:Bool)(hN:a.iN<maxLen):
  Calls prog 203 #[ptr p.ix,.int .i64 k,zM s d] w (zv own w c n p {a with iN:=a.iN+1,ps:=putL a.ps n.sl k s d} (.tuple #[zM (uD a.ps n.sl k s).1 (uD a.ps n.sl k s).2,.int .i64 (putC a.ps n.sl k s)])):=by
 obtain⟨v,mb,hi,hb,hs⟩:=h.open5;exact(Ea hi k s d hN).mono fun _ _ ⟨he,hi',hu⟩=>
  have hu':=hu.mono (fun j _ hj=>hs j hj)
  ⟨he,_,h.turn5 hu' ⟨v,mb,hi',hb,hs⟩ (Ec _ _ _ _ _),h.did5 hu'⟩
theorem Ed(h:CaAt own w c n p a)(k:Int):
  Calls prog 240 #[ptr p.ix,.int .i64 k] w (zv own w c n p {a with ps:=dropL a.ps k} (.tuple #[zM (getV a.ps k).1 (getV a.ps k).2,.int .i64 (getC a.ps k)])):=by
 obtain⟨v,mb,hi,hb,hs⟩:=h.open5;exact(Rp hi k).mono fun _ _ ⟨he,hi',hu⟩=>
  have hu':=hu.mono (fun j _ hj=>hs j hj)
  ⟨he,_,h.turn5 hu' ⟨v,mb,hi',hb,hs⟩ (Rq _ _),h.did5 hu'⟩
theorem Rt(h:CaAt own w c n p a)(k:Int):
  Calls prog 241 #[ptr p.ix,.int .i64 k] w (zv own w c n p {a with ps:=cleanL a.ps k} (.int .i64 (getC a.ps k))):=by
 obtain⟨v,mb,hi,hb,hs⟩:=h.open5;exact(Tn hi k).mono fun _ _ ⟨he,hi',hu⟩=>
  have hu':=hu.mono (fun j _ hj=>hs j hj)
  ⟨he,_,h.turn5 hu' ⟨v,mb,hi',hb,hs⟩ (To _ _),h.did5 hu'⟩
theorem xg(h:CaAt own w c n p a)(s t:Int):
  Calls prog 176 #[ptr p.ss,.int .i64 s,.int .i64 t] w (zv own w c n p {a with st:=turnList a.st s t} (.int .i64 (turnCode a.st s t))):=by
 obtain⟨v,hi,hb,hs⟩:=h.open6;exact(YB hi h.tur s t).mono fun _ _ ⟨he,hi',hu⟩=>
  have hu':=hu.mono (fun j _ hj=>hs j hj)
  ⟨he,_,h.turn6 hu' ⟨v,hi',hb,hs⟩ (Xm _ _ _),h.did6 hu'⟩
theorem VZ(h:CaAt own w c n p a)(k:Int)(hr:InR k)(hN:a.kN<maxLen):
  Calls prog 205 #[ptr p.ck,.int .i64 k] w (zv own w c n p {a with kN:=a.kN+1,K:=sB n.sl a.K k,A:=Ta n.sl a.K a.A a.H k,H:=Tb n.sl a.K a.H k} (.int .i64 (addC n.sl a.K k))):=
 (QS h.open8 (fun _ h=> .inr h) k hr hN).mono fun _ _ ⟨he,hc,hu⟩=>⟨he,_,h.turn8 hu hc,h.did8 hu⟩
theorem Ru(h:CaAt own w c n p a)(k:Int):
  Calls prog 298 #[ptr p.ck,.int .i64 k] w (zv own w c n p {a with K:=a.K.erase k,A:=dropA a.K a.A k} (.int .i64 (touchC a.K k))):=
 (Tc h.open8 k).mono fun _ _ ⟨he,hc,hu⟩=>⟨he,_,h.turn8 hu hc,h.did8 hu⟩
theorem Tp(h:CaAt own w c n p a)(k:Int)(hN:a.kN<maxLen):
  Calls prog 325 #[ptr p.ck,.int .i64 k] w (zv own w c n p {a with kN:=a.kN+1,A:=agA a.A a.K k} (.int .i64 (touchC a.K k))):=
 (Td h.open8 k hN).mono fun _ _ ⟨he,hc,hu⟩=>⟨he,_,h.turn8 hu hc,h.did8 hu⟩
theorem Ua(h:CaAt own w c n p a){N:Nat}{f:Int->Option Nat}(hm:MapAt w' p.sm N f)(hu:Upd (fun j=>j=p.sm) w w'):∃own',CaAt own' w' c n p {a with mN:=N,sums:=f}/\Did own own' w w':=by
 have hu':Upd (fun j=>own j=9\/w.heap.size<=j) w w':=hu.mono (fun j _ e=> .inl (e▸h.sm.2));exact⟨_,h.turn9 hu' ⟨hm,.inl h.sm.2⟩,h.did9 hu'⟩
theorem Xn(h:CaAt own w c n p a){x:Int}(h1: -9223372036854775808<=x)(h2:x<9223372036854775808)(y:Nat)(hy:y<9223372036854775808)(hn:a.mN<maxLen):
  ∃w' own',(Instr.mapUpdate 116 (.map (some p.sm)) (.int .i64 x) (.int .i64 (y:Int))).run prog w=.ok () w'/\CaAt own' w' c n p {a with mN:=a.mN+1,sums:=upd1 a.sums x (some y)}/\Did own own' w w':=by
 obtain⟨w',hr,hm,hu,-⟩:=h.sm.1.store h1 h2 y hy hn;obtain⟨own',hc,hd⟩:=Ua h hm hu;exact⟨w',own',hr,hc,hd⟩
theorem zak(h:CaAt own w c n p a){x:Int}(h1: -9223372036854775808<=x)(h2:x<9223372036854775808)(ty:TypeId):
  ∃w' own',(Builtin.delete_ #[116,3] ty #[.map (some p.sm),.int .i64 x]).run prog w=.ok (.tuple #[]) w'/\CaAt own' w' c n p {a with sums:=upd1 a.sums x none}/\Did own own' w w':=by
 obtain⟨w',hr,hm,hu,-⟩:=h.sm.1.drop h1 h2 ty;obtain⟨own',hc,hd⟩:=Ua h hm hu;exact⟨w',own',hr,hc,hd⟩
end
def cleanB(ps:List (Int×Bool))(k:Int):Bool:=getC ps k==0&&!(getV ps k).2
theorem rj{own:Nat->Nat}{w:World}{c:Nat}{n:CaN}{p:CaP}{a:CaS}(h:CaAt own w c n p a)(k:Int):
  Calls prog 166 #[ptr c,.int .i64 k] w fun e w'=>e=.returned (.bool (cleanB a.ps k))/\Below w.heap.size w w':=by
 obtain⟨v,mb,hi,-,-⟩:=h.ix;obtain⟨-,-,-,-,d4,-,-,-,-⟩:=h.cells;have HG:=qqh (uH hi k);clear hi h;unfold cleanB;generalize getV a.ps k=pv at*;generalize getC a.ps k=cd at*;obtain⟨s,b⟩:=pv;go_enter func166,ntmps166
 go_wp2_with fail
 refine HG.o.mono ?_;rintro e w1 ⟨rfl,hb⟩;have HB:=qqh hb;clear hb;by_cases hc:cd=0
 .subst hc;go_wp2
  go_ret
  exact⟨oe,HB.o.alloc HB.o.size _⟩
 .have q0:(cd==0)=false:=by simpa using hc
  go_wp2
  go_ret
  exact⟨by simp[q0],HB.o.alloc HB.o.size _⟩
end Go.Proofs.YtfhfbpmlnjdfoaaGreatDoor
namespace Go.Proofs.YtfhfbpmlnjdfoaaGreatDoor.EvG
open Go Go.RowKit Go.Proofs.YtfhfbpmlnjdfoaaGreatDoor Tryz
abbrev mayV(xv:Value):Value:=.func (.func 166) #[xv] #[]
def MayIs(xv:Value)(fm:Int->Bool)(w0:World):Prop:=∀(W:World) (k:Int),InR k->Upd (fun _=>False) w0 W->Calls prog 166 #[xv,.int .i64 k] W fun e w'=>e=.returned (.bool (fm k))/\Below W.heap.size W w'
theorem Rv{xv:Value}{fm:Int->Bool}{w0:World}(hmay:MayIs xv fm w0)(k:Int)(hk:InR k)(w:World)(hw:Upd (fun _=>False) w0 w)(g:Nat)(hg:w.cell? ⟨g,0,none⟩=some (mayV xv)):
  Calls prog 233 #[.int .i64 k,.pointer (some ⟨g,0,none⟩)] w fun e w'=>e=.returned (.bool (fm k))/\Below w.heap.size w w':=by
 have hmf:=qqf;have hlt:=(zN hg).2;have hg1:=(((uur (fun _=>False) w).alloc (.cells #[.bool false] 4)).cellAt hlt id).trans hg;clear hg
 go_enter_defers func233,ntmps233
 go_wp2_with fail
 refine(hmay _ k hk (hw.alloc _)).mono ?_;rintro e w1 ⟨rfl,hb1⟩;have hs1:=hb1.size;simp at hs1;have blk:=(hb1.block w.heap.size oe).trans (zc w (.cells #[.bool false] 4) rfl);have C2:=qqh (za (zi blk 0 (.bool (fm k))) 0);have c1:=(hb1.cell (p:=⟨w.heap.size,0,none⟩) oe).trans (za (zc w (.cells #[.bool false] 4) rfl) 0);have f1:=(hb1.frozen (p:=⟨w.heap.size,0,none⟩) oe).trans (zg (zc w (.cells #[.bool false] 4) rfl) 0);simp at c1;have HB:Hid (Below w.heap.size w w1):=zk ((qxl _ _).alloc (qXv _) _) (uuo (S:=fun _=>False) hb1) (qXv _) (fun _ h=>h.elim);clear hb1 blk;go_wp2
 refine leaves_cons (f:=234) (args:= #[.pointer (some ⟨w.heap.size,0,none⟩)]) oe jM ?_;refine(WB _ _).mono ?_;rintro e u' w'' ⟨rfl,rfl,rfl⟩;simp[Leaves,settle,results,results233,go_sem];have c2:=C2.out;simp at c2;rw[c2];exact⟨_,rfl,rfl,HB.o.setCell (p:=⟨w.heap.size,0,none⟩) (qXv _) _⟩
def trimG(few:Nat)(L:List Int):List Int:=if few<L.length then L.tail else L
def restK(K:List Int)(i:Nat):List Int:=K.drop (i+1)++K.take i
structure EvYes(fm:Int->Bool)(few:Nat)(K:List Int)(A:Int->Bool)(G:List Int)(key:Int)(K':List Int)(A':Int->Bool)(G':List Int):Prop where
 ex:∃i,∃h:i<K.length,key=K[i]/\K'=restK K i/\((∀x,K.head?=some x->fm x=true/\A x=false)->i=0/\A'=A)/\((i=0/\A'=A)\/1<=i\/∀x∈K,fm x=false\/A x=true)/\∀j (hj:j<K.length),j<i->fm K[j]=true->A' K[j]=false
 gh:G'=trimG few (G++[key])
 out:A' key=false
 sub:∀x,A' x=true->A x=true
def evGo(fm:Int->Bool)(K:List Int):Nat->Nat->(Int->Bool)->Option (Nat×(Int->Bool))
 |0,_,_=>none
 |g+1,h,A=>if fm (K.getD (h%K.length) 0)=false then evGo fm K g (h+1) A else if A (K.getD (h%K.length) 0)=true then evGo fm K g (h+1) (updB A (K.getD (h%K.length) 0) false)else some (h%K.length,A)
def evR(fm:Int->Bool)(few:Nat)(K:List Int)(A:Int->Bool)(G:List Int):Int×Int×List Int×(Int->Bool)×List Int:=
 match evGo fm K (2*K.length) 0 A with
 |none=>(0,14,K,A,G)
 |some (p,A')=>(K.getD p 0,0,restK K p,A',trimG few (G++[K.getD p 0]))
section
variable{fm:Int->Bool}{K:List Int}{A:Int->Bool}{g h p:Nat}{k:Int}{hp:p<K.length}
theorem Tq(hg:1<=g)(hk:k=K[p])(he:p=h%K.length)(hf:fm k=false):evGo fm K g h A=evGo fm K (g-1) (h+1) A:=by
 obtain⟨g,rfl⟩:∃g',g=g'+1:=⟨g-1,oM⟩
 have e:K.getD (h%K.length) 0=k:=by rw[<-he,hk];simp[hp]
 simp only[evGo,e,hf,if_true,Nat.add_sub_cancel]
theorem Rw(hg:1<=g)(hk:k=K[p])(he:p=h%K.length)(hf:fm k=true)(ha:A k=true):evGo fm K g h A=evGo fm K (g-1) (h+1) (updB A k false):=by
 obtain⟨g,rfl⟩:∃g',g=g'+1:=⟨g-1,oM⟩
 have e:K.getD (h%K.length) 0=k:=by rw[<-he,hk];simp[hp]
 simp only[evGo,e,hf,ha,if_true,Nat.add_sub_cancel];simp
theorem Rx(hg:1<=g)(hk:k=K[p])(he:p=h%K.length)(hf:fm k=true)(ha:A k=false):evGo fm K g h A=some (p,A):=by
 obtain⟨g,rfl⟩:∃g',g=g'+1:=⟨g-1,oM⟩
 have e:K.getD (h%K.length) 0=k:=by rw[<-he,hk];simp[hp]
 simp only[evGo,e,hf,ha];simp[he]
end
def EvOut(fm:Int->Bool)(few:Nat)(K:List Int)(A:Int->Bool)(G:List Int)(key code:Int)(K':List Int)(A':Int->Bool)(G':List Int):Prop:=
 ((code=14/\key=0/\K'=K/\A'=A/\G'=G/\∀x∈K,fm x=false\/A x=true)\/(code=0/\EvYes fm few K A G key K' A' G'))/\evR fm few K A G=(key,code,K',A',G')
theorem restK_perm{K:List Int}{i:Nat}(h:i<K.length):(K[i]::restK K i).Perm K:=by
 unfold restK;have e:K=K.take i++K[i]::K.drop (i+1):=oe;have h1:(K[i]::(K.drop (i+1)++K.take i)).Perm (K.take i++K[i]::K.drop (i+1)):=by
  exact List.perm_append_comm (l₁:=K[i]::K.drop (i+1)) (l₂:=K.take i)
 rw[<-e]at h1;exact h1
theorem Tr{K:List Int}{i:Nat}(h:i<K.length):(restK K i).length+1=K.length:=by
 have:=(restK_perm h).length_eq;simpa using this
theorem Ts(few:Nat)(L:List Int)(h:L.length<=few+1):(trimG few L).length<=few:=by
 unfold trimG;split
 .rw [List.length_tail];omega
 .omega
theorem trimG_mem{few:Nat}{L:List Int}{x:Int}(h:x∈trimG few L):x∈L:=by
 unfold trimG at h;split at h
 .exact List.mem_of_mem_tail h
 .exact h
theorem Xo{few:Nat}{L:List Int}(h:L.Nodup):(trimG few L).Nodup:=by
 unfold trimG;split
 .exact h.sublist (List.tail_sublist L)
 .exact h
theorem CkGood.evict{most few:Nat}{K G K' G':List Int}{A A':Int->Bool}{fm:Int->Bool}{key:Int}(h:CkGood most few K A G)(hy:EvYes fm few K A G key K' A' G'):CkGood most few K' A' G':=by
 obtain⟨i,hi,rfl,rfl,_,_,_⟩:=hy.ex;have hp:=restK_perm hi;have hnd:(K[i]::restK K i).Nodup:=hp.nodup_iff.2 h.kd;have hmem:∀x,x∈restK K i->x∈K:=fun x hx=>hp.mem_iff.1 (qzs _ hx);have hlen:=Tr hi;have hgh:=hy.gh;subst hgh;exact{
  kr:=fun x hx=>h.kr x (hmem x hx)
  gr:=fun x hx=>by
   rcases qzq.1 (trimG_mem hx)with h1|h1
   .exact h.gr x h1
   .simp at h1;exact h1▸h.kr _ (qyz hi)
  kd:=(qXb.1 hnd).2
  gd:=Xo (by
   rw[qXa];refine⟨h.gd,oe,fun x hx y hy e=>?_⟩;simp at hy;subst hy;subst e;exact h.dis _ (qyz hi) hx)
  dis:=fun x hx hg=>by
   rcases qzq.1 (trimG_mem hg)with h1|h1
   .exact h.dis x (hmem x hx) h1
   .simp at h1;subst h1;exact(qXb.1 hnd).1 hx
  ask:=fun x hx=>by
   have h1:=h.ask x (hy.sub x hx);rcases qzr.1 (hp.mem_iff.2 h1)with h2|h2
   .subst h2;rw[hy.out]at hx;cases hx
   .exact h2
  kl:=by have:=h.kl;omega
  gl:=Ts _ _ (by have:=h.gl;simp;omega)
  ml:=h.ml
  fl:=h.fl
  m1:=h.m1}
theorem EvOut.good{most few:Nat}{K G K' G':List Int}{A A':Int->Bool}{fm:Int->Bool}{key code:Int}(h:CkGood most few K A G)(ho:EvOut fm few K A G key code K' A' G'):CkGood most few K' A' G':=by
 rcases ho with⟨⟨_,_,rfl,rfl,rfl,_⟩|⟨_,hy⟩,-⟩
 .exact h
 .exact CkGood.evict h hy
theorem Tt{w:World}{v:Value}{l:List Int}(h:Sl w 3 1 v l.length (ints l))(hle:l.length<=4096)(hi:0<l.length):
  Calls prog 238 #[v,.int .i64 0,.int .i64 1] w fun e w'=>∃ao n c,e=.returned (.slice ao n c)/\(Value.slice ao n c).ownBlock=v.ownBlock/\Sl w' 3 1 (.slice ao n c) l.tail.length (ints l.tail)/\Upd (ownS v) w w':=by
 have:=ZC h hle hi;rw[List.eraseIdx_zero]at this;refine this.mono ?_;rintro e w' ⟨v',rfl,h1,h2,h3⟩;obtain⟨ao,c,rfl⟩:=h2.rd.j7;exact⟨ao,_,c,rfl,h1,h2,h3⟩
theorem Ub{w:World}{g o c n:Nat}{cur:Array Value}{e:TypeId}{l:List Int}(hg:w.heap[g]?=some (.cells cur e (0,0)))(hc:∀j u,(ints l)[j]?=some u->cur[o+j]?=some u)(hn:l.length<=maxLen)(A:Addr)(i:Nat)(hA:(if c=i then some (⟨g,o,none⟩:Addr)else some ⟨g,o+i,none⟩)=some A)(hnl:n=l.length-i)(hcl:c=i->l.length<=i)(cc:Nat):
  Rd w 1 (.slice (some A) n cc) (l.drop i).length (ints (l.drop i)):=by
 subst hnl;refine⟨oe,by rw[qzf];omega,some A,cc,by rw[qzf],(fun h=>by cases h),fun b hb j u hj=>?_⟩;cases hb;have hj':(ints l)[i+j]?=some u:=by simpa[ints,List.getElem?_drop]using hj
 by_cases h:c=i
 .have:=(qyp.1 hj').1;rw[xi]at this;have:=hcl h;omega
 .rw [if_neg h]at hA;cases hA;rw[qxa,za hg,qXr];exact hc _ _ hj'
theorem Ee{w:World}{g o:Nat}{cur:Array Value}{e:TypeId}{l:List Int}(hg:w.heap[g]?=some (.cells cur e (0,0)))(hc:∀j u,(ints l)[j]?=some u->cur[o+j]?=some u)(hn:l.length<=maxLen)(i:Nat)(hi:i<=l.length)(cc:Nat):
  Rd w 1 (.slice (some ⟨g,o,none⟩) i cc) (l.take i).length (ints (l.take i)):=by
 have hlt:(l.take i).length=i:=by rw[qzk];omega
 refine⟨oe,by rw[hlt];omega,some ⟨g,o,none⟩,cc,by rw[hlt],(fun h=>by cases h),fun b hb j u hj=>?_⟩;cases hb;have hj1:=(qyp.1 hj).1;rw[xi,hlt]at hj1;have hj':(ints l)[j]?=some u:=by
  rw[<-hj];simp[ints,hj1]
 rw[qxa,za hg];exact hc _ _ hj'
theorem Ry{w:World}{b mb N most few:Nat}{vk vg:Value}{K G:List Int}{A:Int->Bool}(h:CkAt w b mb N vk vg most few K A G)(xv:Value)(fm:Int->Bool)(hmay:MayIs xv fm w):
  Calls prog 165 #[.pointer (some ⟨b,0,none⟩),mayV xv] w fun e w'=>∃key code K' A' G' mb' vk' vg',e=.returned (.tuple #[.int .i64 key,.int .i64 code])/\
   EvOut fm few K A G key code K' A' G'/\CkMem w' b mb' N vk' vg' most few K' A' G'/\(∀j,QQ b mb' vk' vg' j->QQ b mb vk vg j\/w.heap.size<=j)/\Upd (fun j=>j=b) w w':=by
 obtain⟨i0,hi0,hz0,hz1',hz2⟩:=qZa vv;have hq:∀w,(binOp .eql 210 (mayV xv) .nilFunc).run prog w=.ok (.bool false) w:=fun _=>kR;have hmf:=qqf;have H:=qqh h;have hblt:=h.blt;have hu1:Upd (fun _=>False) w (w.alloc (.cells #[mayV xv] 210)).drew:=((uur _ _).alloc _).drew;have H1:=h.keep hu1 (fun _ _ h=>h);have hkl:=h.kle;have hgl:=h.gle;have C1:Hid (((w.alloc (.cells #[mayV xv] 210)).drew.cell? ⟨b,2,none⟩=some vk)/\((w.alloc (.cells #[mayV xv] 210)).drew.cell? ⟨b,3,none⟩=some (.map (some mb)))/\
   ((w.alloc (.cells #[mayV xv] 210)).drew.cell? ⟨b,4,none⟩=some vg)):=⟨H1.c.2.2.1,H1.c.2.2.2.1,H1.c.2.2.2.2⟩
 have M1:Hid ((w.alloc (.cells #[mayV xv] 210)).drew.cell? ⟨w.heap.size,0,none⟩=some (mayV xv)):=za (zc w _ rfl) 0;have H1:=qqh H1;have HU1:=qqh hu1;have g2:=C1.out.1;have g3:=C1.out.2.1;have g4:=C1.out.2.2;clear h hu1;go_enter func165,ntmps165
 go_wp2
 refine wp_scope_straight ?_;go_wp2
 go_region_held3 (fun W=>W.cell? ⟨b,2,none⟩=some vk/\W.cell? ⟨b,3,none⟩=some (.map (some mb))/\W.cell? ⟨b,4,none⟩=some vg) (go_keep)
  (first
  |((go_at_call 113;refine(yE H1.o.ks.rd oM).mono ?_;rintro e w3 ⟨v3,rfl,hs3,hf3,hb3⟩;have H3:=H1.o.below hb3;have k2:=H3.c.2.2.1;have k3:=H3.c.2.2.2.1;have k4:=H3.c.2.2.2.2;have H3:=qqh H3))
  |((go_at_call 235;refine(yV H3.o.set).mono ?_;rintro e w4 ⟨rfl,hset4,hb4⟩;have H4:=H3.o.below hb4;have l2:=H4.c.2.2.1;have l3:=H4.c.2.2.2.1;have l4:=H4.c.2.2.2.2;have H4:=qqh H4))
  |((go_at_call 113;refine(yE H4.o.gs.rd oM).mono ?_;rintro e w5 ⟨v5,rfl,hs5,hf5,hb5⟩;have H5:=H4.o.below hb5;have m2:=H5.c.2.2.1;have m3:=H5.c.2.2.2.1;have m4:=H5.c.2.2.2.2;have H5:=qqh H5)))
 have hz1:(w.alloc (.cells #[mayV xv] 210)).drew.heap.size=w.heap.size+1:=oe;have hb35:Below w3.heap.size w3 w5:=hb4.trans (hb5.mono hb4.size);have hU5:Hid (Upd (fun _=>False) w w5):=HU1.o.trans (uuo (hb3.trans (hb35.mono hb3.size)));have HK5:=qqh (hs3.keep (uuo (S:=fun _=>False) hb35) (fun _ _ h=>h));have HA5:=qqh (hset4.keep (uuo (S:=fun _=>False) hb5) id);have HG5:=qqh hs5;have M5:=qqh ((hb35.cell (p:=⟨w.heap.size,0,none⟩) (by have:=hb3.size;simp at this⊢;omega)).trans ((hb3.cell (p:=⟨w.heap.size,0,none⟩) oe).trans M1.out));have HO:Hid ((∀g,v3.ownBlock=some g->w.heap.size<g/\g<w3.heap.size)/\w.heap.size<w3.heap.size/\(∀g,v5.ownBlock=some g->w3.heap.size<g)):=by
  have:=hb3.size;have:=hset4.lt;refine⟨fun g hg=>⟨?_,hs3.lt hg⟩,oM,fun g hg=>?_⟩
  .have:=hf3 g hg;omega
  .have:=hf5 g hg;omega
 obtain⟨aok,ck,rfl⟩:=hs3.rd.j7;obtain⟨aog,cg,rfl⟩:=hs5.rd.j7;generalize hmb:w3.heap.size=mb2 at*;clear hb3 hb4 hb5 hb35 hs3 hs5 hf3 hf5 hset4 m2 m3 m4 l2 l3 l4 k2 k3 k4 g2 g3 g4 H3 H4 H1 C1 M1 HU1 hmb hz1;go_wp2
 refine wp_label ?_;go_wp2
 go_loopg[12] (2*K.length) (fun g i wr=>∃h:Nat,h+g=2*K.length/\i=.int .i64 h/\∃A2,SetAt wr mb2 N A2/\(∀x,A2 x=true->A x=true)/\((h=0->A2=A)/\evGo fm K g h A2=evGo fm K (2*K.length) 0 A)/\(∀j (hj:j<K.length),j<h->(fm K[j]=false\/A K[j]=true)/\(fm K[j]=true->A2 K[j]=false))/\Upd (fun j=>j=mb2) w5 wr)
 case atStart=>exact⟨0,oM,rfl,A,HA5.o,fun _ h=>h,⟨fun _=>rfl,rfl⟩,fun j hj h=>oM,uur _ _⟩
 case round=>
  obtain⟨h,hh,rfl,A2,hs2,hsub,hz0,hz1,hur⟩:=hrel;have R0:=Y5 hs2 hsub hz0 hz1 hur;clear hs2 hsub hz0 hz1 hur;by_cases hlt:h<2*K.length
  .have hpl:h%K.length<K.length:=qYa _ oM;obtain⟨p,hp⟩:=qqe (h%K.length);rw[<-hp]at hpl;have hmod:(h:Int)%(K.length:Int)=(p:Int):=by rw[hp];exact(Int.natCast_emod h K.length).symm
   have HP:=qqh hp;clear hp;have hK:=HK5.o.keep R0.out.2.2.2.2 (fun g hg e=>by have:=HO.o.1 g hg;omega);have HKr:=qqh hK;obtain⟨gk3,ok3,ck3,hv3,hg3,hc3⟩:=hK.rd.at oM;cases hv3;have hcp:=hc3 p _ (yt hpl);have hMr:=(R0.out.2.2.2.2.cell (p:=⟨w.heap.size,0,none⟩) (zN M5.out).2 (by have:=HO.o.2.1;simp;omega)).trans M5.out;have hkr:InR K[p]:=H5.o.good.kr _ (qyz hpl);obtain⟨k,hk⟩:=qqe (K[p]);rw[<-hk]at hcp hkr;have HKK:=qqh hk;clear hk hK hc3;have q0:¬(K.length:Int)=0:=oM;go_wp2_with fail
   refine(Rv hmay k hkr _ (hU5.out.new R0.out.2.2.2.2 (fun i hi e=>by have:=HO.o.2.1;omega)) w.heap.size hMr).mono ?_;rintro e w6 ⟨rfl,hb6⟩;have hA6:=qqh (R0.out.1.keep (uuo (S:=fun _=>False) hb6) id);have HU6:=qqh (R0.out.2.2.2.2.trans (uuo hb6));clear hb6 hcp hMr hg3;rcases hmb:fm k with _|_
   .have HM:=qqh hmb;clear hmb;go_wp2
    go_roundg (gk-1)
    case measure=>omega
    case rel=>
     refine⟨h+1,oM,by go_num,A2,hA6.out,R0.out.2.1,⟨oM,(Tq oM HKK.o HP.o HM.o).symm.trans R0.out.2.2.1.2⟩,fun j hj hjh=>?_,HU6.o⟩;by_cases h0:j<h
     .exact R0.out.2.2.2.1 j hj h0
     .have hp0:p=j:=by rw[HP.o,show h=j by omega];exact qXz hj
      subst hp0;rw[<-HKK.o];exact⟨.inl HM.o,fun e=>by rw[HM.o]at e;cases e⟩
   .have HM:=qqh hmb;clear hmb;go_wp2_with fail
    refine(uy hA6.out k hkr).mono ?_;rintro e w7 ⟨rfl,hb7⟩;have hA7:=qqh (hA6.out.keep (uuo (S:=fun _=>False) hb7) id);have HU7:=qqh (HU6.o.trans (uuo hb7));clear hb7;rcases hask:A2 k with _|_
    .have HA:=qqh hask;clear hask;go_wp2
     simp only[hmod];clear hmod;have hz7:w.heap.size<w7.heap.size:=by have:=HU7.o.size;have:=hU5.out.size;have:=HO.o.2.1;have:=HA5.o.lt;omega
     have H7:=qqh (H5.o.keep HU7.o (fun j hj e=>by subst e;have:=H.o.slt _ hj;have:=HO.o.2.1;omega));have hK7:Sl w7 3 1 (.slice (some ⟨gk3,ok3,none⟩) K.length ck) K.length (ints K):=HK5.o.keep HU7.o (fun g hg e=>by have:=HO.o.1 g hg;omega);obtain⟨_,⟨h1,h2⟩|⟨g9,o9,c9,cur,h1,hg9,hn9,hm9,hz9,hc9⟩⟩:=hK7
     .cases h1
     cases h1;obtain⟨Aa,hAa,hsrc⟩:∃Aa:Addr,(if ck=p+1 then some (⟨gk3,ok3,none⟩:Addr)else some ⟨gk3,ok3+(p+1),none⟩)=some Aa/\Hid (∀W,Upd (fun _=>False) w7 W->Rd W 1 (.slice (some Aa) (K.length-(p+1)) (ck-(p+1))) (K.drop (p+1)).length (ints (K.drop (p+1)))):=by
      have hml:K.length<=maxLen:=oM;by_cases e:ck=p+1
      .rw [if_pos e];refine⟨_,rfl,fun W hW=>Rd.keep (Ub hg9 hc9 hml _ (p+1) (if_pos e) rfl (fun _=>oM) _) hW (fun _ _ h=>h)⟩
      .rw [if_neg e];refine⟨_,rfl,fun W hW=>Rd.keep (Ub hg9 hc9 hml _ (p+1) (if_neg e) rfl (fun h=>absurd h e) _) hW (fun _ _ h=>h)⟩
     have hRb:Hid (∀W,Upd (fun _=>False) w7 W->Rd W 1 (.slice (some ⟨gk3,ok3,none⟩) p ck) (K.take p).length (ints (K.take p))):=fun W hW=>Rd.keep (Ee hg9 hc9 oM p oM _) hW (fun _ _ h=>h);have u1:Hid (Upd (fun _=>False) w7 (w7.alloc (.cells #[.slice (some Aa) (K.length-(p+1)) (ck-(p+1)),.slice (some ⟨gk3,ok3,none⟩) p ck] 87)).drew):=((uur _ _).alloc _).drew;have u2:Hid ((w7.alloc (.cells #[.slice (some Aa) (K.length-(p+1)) (ck-(p+1)),.slice (some ⟨gk3,ok3,none⟩) p ck] 87)).drew.heap[w7.heap.size]?=some (.cells #[.slice (some Aa) (K.length-(p+1)) (ck-(p+1)),.slice (some ⟨gk3,ok3,none⟩) p ck] 87 (0,0))):=zc _ _ rfl;have hlen:Hid ((K.drop (p+1)).length+(K.take p).length<=4096):=by show(K.drop (p+1)).length+(K.take p).length<=4096;rw[qzf,qzk];omega
     have k1:¬p+1>ck:=oM;have hic:p<=ck:=oM;have hjc:p+1<=ck:=oM;have hj0:(0:Int)<=(p:Int)+1:=oM;have hj1:(p:Int)+1<=(K.length:Int):=oM;have hj2:0<=(p:Int)+1/\(p:Int)+1<=(K.length:Int):=⟨hj0,hj1⟩
     have hwr:IntKind.i64.wrap ((p:Int)+1)=(p:Int)+1:=qxv _ oM;have htn:((p:Int)+1).toNat=p+1:=oM;have hlk:Hid ((K.drop (p+1)).length+(K.take p).length=(restK K p).length):=by show _=_;unfold restK;rw[qzd]
     have hli:Hid (ints (K.drop (p+1))++ints (K.take p)=ints (restK K p)):=by show _=_;unfold restK;rw[Yw]
     clear hc9 hg9 hz9 hm9
     go_region_with (go_at_call 237;refine(WE u2.out (hsrc.out _ u1.out) (hRb.out _ u1.out) hlen.out).mono ?_;rintro e w8 ⟨v8,rfl,hs8,hf8,hb8⟩;rw[hlk.out,hli.out]at hs8;obtain⟨ao8,c8,rfl⟩:=hs8.rd.j7;have hU8:=qqh (u1.out.trans (uuo hb8));have H8:=H7.o.keep hU8.out (fun _ _ h=>h);have s2:=H8.c.2.2.1;have f2:=H8.fz 2;have H8:=qqh H8)
     have hz8:w7.heap.size<=w8.heap.size:=hU8.out.size;have hF8:∀g,(Value.slice ao8 (restK K p).length c8).ownBlock=some g->w7.heap.size<=g/\g<w8.heap.size:=fun g hg=>⟨by have:=hf8 g hg;simp at this;omega,hs8.lt hg⟩
     have hstr8:=H8.o.str;have hG8:=HG5.o.keep (HU7.o.trans (hU8.out.mono fE)) (fun g hg e=>by have:=HO.o.2.2 g hg;omega);have hA8:=hA7.out.keep hU8.out id;obtain⟨v8,hv8⟩:=qqe (Value.slice ao8 (restK K p).length c8);have P8:=Y6 hs8 hF8 hstr8 hG8 hA8 hv8;clear hs8 hF8 hf8 hb8 hG8 hA8 hstr8 s2 f2;rw[<-hv8];clear hv8;have hbv8:v8.ownBlock≠some b:=by rw[P8.out.2.2.2.2.2];intro e;have:=(P8.out.2.1 b e).1;omega
     have hbv5:(Value.slice aog G.length cg).ownBlock≠some b:=by intro e;have:=HO.o.2.2 b e;have:=HO.o.2.1;omega
     have hbmb:mb2≠b:=by have:=HO.o.2.1;omega
     have str9:=zi P8.out.2.2.1 2 v8;have ks9:=(P8.out.2.2.2.2.2▸P8.out.1:Sl w8 3 1 v8 (restK K p).length (ints (restK K p))).kQ (zj w8 b 2 v8) hbv8;have gs9:=P8.out.2.2.2.1.kQ (zj w8 b 2 v8) hbv5;have as9:=P8.out.2.2.2.2.1.keep (zj w8 b 2 v8) hbmb;have U9:Upd (fun j=>j=b) w (w8.setCell ⟨b,2,none⟩ v8):=
      Upd.trans (Upd.new hU5.out (HU7.o.trans (hU8.out.mono fE)) (fun i hi e=>by have:=HO.o.2.1;omega)|>.mono fE) (zj w8 b 2 v8)
     have hz9:w8.heap.size=(w8.setCell ⟨b,2,none⟩ v8).heap.size:=oe;generalize w8.setCell ⟨b,2,none⟩ v8=w9 at*;have s3:=za str9 3;have f3:=zg str9 3;simp at s3;have Q9:=Y6 str9 ks9 gs9 as9 U9 hz9;clear str9 ks9 gs9 as9 U9 hz9;have G10:=qqh (Q9.out.2.2.1.kQ (zj w9 b 3 (.map (some mb2))) hbv5);have hm1:Hid (G.length+1<=maxLen):=by show G.length+1<=maxLen;unfold maxLen;omega
     have hm2:Hid ((G.length+1)*8<=140737488355328):=by show _<=_;omega
     have hone:Hid (∀u∈[Value.int .i64 k],u.oneCell'=true):=by intro u hu;simp at hu;subst hu;rfl
     have hx10:Hid (Value.slice (some ⟨w9.heap.size,0,none⟩) 1 1=.slice (some ⟨(w9.setCell ⟨b,3,none⟩ (.map (some mb2))).heap.size,0,none⟩) 1 1):=by show _=_;simp
     go_wp2_with (at_builtin;refine zT rfl (.tmp 82) (.tmp 84) 87 rfl i0 (.int .i64 0) 8 underlying87 hi0 hz0 hz1' hz2 rfl de rfl G10.out [.int .i64 k] hx10.out rfl hone.out hm1.out hm2.out ?_)
     intro v11 w11 hs11 hu11 hbf11;obtain⟨ao11,c11,rfl⟩:=hs11.rd.j7;have hz10:w9.heap.size=(w9.setCell ⟨b,3,none⟩ (.map (some mb2))).heap.size:=oe;have hob11:∀g,(Value.slice ao11 (G.length+1) c11).ownBlock=some g->mb2<g/\(g<w7.heap.size\/w8.heap.size<=g):=by
      intro g hg;have ht:=HG5.o.lt (g:=g);have hsz:=HU7.o.size;rcases hbf11 with e|⟨g',e,hge⟩
      .rw [e]at hg;exact⟨HO.o.2.2 g hg,.inl (by have:=ht hg;omega)⟩
      .rw [e]at hg;cases hg;have:=Q9.out.2.2.2.2.2;have:=HA5.o.lt;exact⟨oM,.inr oM⟩
     have str10:=zi Q9.out.1 3 (.map (some mb2));have str11:=(hu11.block b (zf str10) (fun e=>hbv5 e)).trans str10;have str12:=zi str11 4 (.slice ao11 (G.length+1) c11);have s4:=za str11 4;have f4:=zg str11 4;simp at s4;have hd58:Dis v8 (Value.slice aog G.length cg):=fun g h1 h2=>by
      have:=(P8.out.2.1 g (by rw[<-P8.out.2.2.2.2.2];exact h1)).1;have:=HG5.o.lt h2;have:=HU7.o.size;omega
     have hb11:(Value.slice ao11 (G.length+1) c11).ownBlock≠some b:=fun e=>by have:=(hob11 b e).1;have:=HO.o.2.1;omega
     have ks12:=((Q9.out.2.1.kQ (zj w9 b 3 (.map (some mb2))) hbv8).kS hd58 hu11).kQ (zj w11 b 4 (.slice ao11 (G.length+1) c11)) hbv8;have gs12:=hs11.kQ (zj w11 b 4 (.slice ao11 (G.length+1) c11)) hb11;have as12:=((Q9.out.2.2.2.1.keep (zj w9 b 3 (.map (some mb2))) hbmb).keep hu11 (fun e=>by have:=HO.o.2.2 mb2 e;omega)).keep (zj w11 b 4 (.slice ao11 (G.length+1) c11)) hbmb;have U12:=(((Q9.out.2.2.2.2.1.trans (zj w9 b 3 (.map (some mb2)))).new hu11 (fun i hi e=>by have:=HO.o.2.2 i e;have:=HO.o.2.1;omega))).trans (zj w11 b 4 (.slice ao11 (G.length+1) c11));have e12:ints G++[.int .i64 k]=ints (G++[k]):=oe;rw[e12]at gs12;have M12:CkMem (w11.setCell ⟨b,4,none⟩ (.slice ao11 (G.length+1) c11)) b mb2 N v8 (.slice ao11 (G.length+1) c11) most few (restK K p) A2 (G++[k]):={
      str:=by simpa using str12
      ks:=ks12
      gs:=by simpa using gs12
      set:=as12
      kb:=hbv8
      gb:=hb11
      km:=fun e=>by have:=(P8.out.2.1 mb2 (by rw[<-P8.out.2.2.2.2.2];exact e)).1;have:=HA5.o.lt;have:=HU7.o.size;omega
      gm:=fun e=>by have:=(hob11 mb2 e).1;omega
      bm:=hbmb
      kg:=fun g h1 h2=>by
       have h3:=P8.out.2.1 g (by rw[<-P8.out.2.2.2.2.2];exact h1);have h4:=(hob11 g h2).2;omega}
     have HM12:=qqh M12;have HU12:=qqh U12;clear M12 U12 as12 gs12 ks12 e12 hbf11 hu11 hs11 str10 str11 str12 hb11 hd58;go_wp2
     generalize w11.setCell ⟨b,4,none⟩ (.slice ao11 (G.length+1) c11)=w12 at*;have c12:=HM12.o.c;have c12a:=c12.2.1;have c12b:=c12.2.2.2.2;clear c12 s4 f4 s3 f3;have HV:Hid (EvYes fm few K A G k (restK K p) A2 (trimG few (G++[k]))):=by
      refine⟨⟨p,hpl,HKK.o,rfl,fun hx=>?_,?_,fun j hj hjp e=>(R0.out.2.2.2.1 j hj (by have:=Nat.mod_le h K.length;rw[<-HP.o]at this;omega)).2 e⟩,rfl,HA.o,R0.out.2.1⟩
      .by_cases h0:h=0
       .refine ⟨?_,R0.out.2.2.1.1 h0⟩;rw[HP.o,h0];exact Nat.zero_mod _
       .have hh0:K.head?=some K[0]:=by rw[List.head?_eq_getElem?];exact qyn oM
        have h1:=(R0.out.2.2.2.1 0 oM oM).1;have h2:=hx _ hh0;rw[h2.1,h2.2]at h1;simp at h1
      .by_cases h0:h=0
       .exact .inl ⟨by rw[HP.o,h0];exact Nat.zero_mod _,R0.out.2.2.1.1 h0⟩
       .right
        by_cases h1:h<K.length
        .left;rw[HP.o,qXz h1];omega
        .right
         intro x hx;obtain⟨j,hj,rfl⟩:=qza hx;exact(R0.out.2.2.2.1 j hj oM).1
     have HE:Hid (evR fm few K A G=(k,0,restK K p,A2,trimG few (G++[k]))):=by
      show _=_;have e:K.getD p 0=k:=by rw[HKK.o];simp[hpl]
      unfold evR;rw[<-R0.out.2.2.1.2,Rx oM HKK.o HP.o HM.o HA.o];simp only[e]
     have hob:Hid (∀(v13:Value),(v13.ownBlock=(Value.slice ao11 (G.length+1) c11).ownBlock)->∀j,QQ b mb2 v8 v13 j->QQ b mb vk vg j\/w.heap.size<=j):=by
      intro v13 hv j hj;rcases hj with rfl|rfl|hj|hj
      .exact .inl (.inl rfl)
      .right;have:=HO.o.2.1;omega
      .right;have:=(P8.out.2.1 j (by rw[<-P8.out.2.2.2.2.2];exact hj)).1;omega
      .right;rw[hv]at hj;have:=(hob11 j hj).1;have:=HO.o.2.1;omega
     by_cases hf:few<G.length+1
     .have qf:decide ((few:Int)<(G.length:Int)+1)=true:=by simp;omega
      go_quiet(fail)
      generalize hw13:w12.drewN nq=w13;have hu13:Upd (fun _=>False) w12 w13:=by rw[<-hw13];exact(uur _ _).drewN _
      have M13:=qqh (HM12.o.keep hu13 (fun _ _ h=>h));have HU13:=qqh (HU12.o.trans (hu13.mono fE));clear hw13 hu13 c12a c12b;have c13:=M13.out.c.2.2.2.2;have hl13:Hid (0<(G++[k]).length/\(G++[k]).length<=4096/\(G++[k]).tail=trimG few (G++[k])):=by
       refine⟨oe,by simp;omega,?_⟩;unfold trimG;rw[if_pos oh]
      go_wp2_with fail
      refine(Tt M13.out.gs hl13.out.2.1 hl13.out.1).mono ?_;rintro e w14 ⟨ao14,n14,c14,rfl,hbe,hs14,hu14⟩;have M15:=qqh (M13.out.setGhosts hu14 hs14 (.inl hbe));have U15:Hid (Upd (fun j=>j=b) w (w14.setCell ⟨b,4,none⟩ (.slice ao14 n14 c14))):=
       (HU13.o.new hu14 (fun i hi e=>by have:=(hob11 i e).1;have:=HO.o.2.1;omega)).trans (zj _ _ _ _)
      have hstr14:=(hu14.block b (zf M13.out.str) (fun e=>M13.out.gb e)).trans M13.out.str;have s14:=za hstr14 4;have f14:=zg hstr14 4;simp at s14;have HB14:=qqh hbe;clear hu14 hs14 hbe hstr14 c13;dsimp only;clear hwr htn hAa;go_wp2
      rw[qxr];go_ret2
      refine⟨k,0,restK K p,A2,trimG few (G++[k]),mb2,v8,_,rfl,⟨.inr ⟨rfl,HV.o⟩,HE.o⟩,?_,hob.out _ HB14.o,U15.out⟩;rw[<-hl13.out.2.2];exact M15.out
     .have qf:decide ((few:Int)<(G.length:Int)+1)=false:=by simp;omega
      go_quiet(fail)
      have hT:Hid (G++[k]=trimG few (G++[k])):=by show _=_;unfold trimG;rw[if_neg oh]
      go_wp2
      rw[qxr];go_ret2
      refine⟨k,0,restK K p,A2,trimG few (G++[k]),mb2,v8,_,rfl,⟨.inr ⟨rfl,HV.o⟩,HE.o⟩,?_,hob.out _ rfl,HU12.o.drewN _⟩;rw[<-hT.out];exact HM12.o.keep ((uur (fun _=>False) _).drewN _) (fun _ _ h=>h)
    .have HA:=qqh hask;clear hask;obtain⟨w8,hrun,hs8,hu8,hz8⟩:=SetAt.drop hA7.out (x:=k) hkr 0;have R8:=Y2 hs8 hu8;clear hs8 hu8 hz8;go_wp2
     go_roundg (gk-1)
     case measure=>omega
     case rel=>
      refine⟨h+1,oM,by go_num,updB A2 k false,R8.out.1,?_,⟨oM,(Rw oM HKK.o HP.o HM.o HA.o).symm.trans R0.out.2.2.1.2⟩,fun j hj hjh=>?_,HU7.o.trans R8.out.2⟩
      .intro x hx;by_cases e:x=k
       .subst e;simp[updB]at hx
       .simp only[updB,if_neg e]at hx;exact R0.out.2.1 x hx
      .by_cases h0:j<h
       .refine ⟨(R0.out.2.2.2.1 j hj h0).1,fun e=>?_⟩;unfold updB;split
        .rfl
        .exact (R0.out.2.2.2.1 j hj h0).2 e
       .have hp0:p=j:=by rw[HP.o,show h=j by omega];exact qXz hj
        subst hp0;rw[<-HKK.o];exact⟨.inr (R0.out.2.1 k HA.o),fun _=>by simp[updB]⟩
  .have he:Hid (∀x∈K,fm x=false\/A x=true):=by
    intro x hx;obtain⟨j,hj,rfl⟩:=qza hx;exact(R0.out.2.2.2.1 j hj oM).1
   have hE:Hid (evR fm few K A G=(0,14,K,A,G)):=by
    show _=_;unfold evR;rw[<-R0.out.2.2.1.2,show gk=0 by omega];rfl
   have hM:Hid (CkMem wr b mb N vk vg most few K A G):=(H5.o.keep R0.out.2.2.2.2 (fun j hj e=>by subst e;have:=H.o.slt _ hj;have:=HO.o.2.1;omega)).toCkMem;have hU:Hid (Upd (fun j=>j=b) w wr):=(hU5.out.new R0.out.2.2.2.2 (fun i hi e=>by have:=HO.o.2.1;omega)).mono fE;go_wp2
   rw[qxr];go_ret2
   exact⟨0,14,K,A,G,mb,vk,vg,rfl,⟨.inl ⟨rfl,rfl,rfl,rfl,rfl,he.out⟩,hE.out⟩,hM.out,fun j hj=> .inl hj,hU.out⟩
theorem evict_ck{S:Nat->Prop}{w:World}{b N most few:Nat}{K G:List Int}{A:Int->Bool}(h:Ck S w b N most few K A G)(hn:∀j,w.heap.size<=j->S j)(xv:Value)(fm:Int->Bool)(hmay:MayIs xv fm w):
  Calls prog 165 #[.pointer (some ⟨b,0,none⟩),mayV xv] w fun e w'=>∃key code K' A' G',e=.returned (.tuple #[.int .i64 key,.int .i64 code])/\
   EvOut fm few K A G key code K' A' G'/\Ck S w' b N most few K' A' G'/\Upd S w w':=by
 obtain⟨mb,vk,vg,h,hS⟩:=h;refine(Ry h xv fm hmay).mono ?_;rintro e w' ⟨key,code,K',A',G',mb',vk',vg',rfl,ho,hm,hb,hu⟩;exact⟨key,code,K',A',G',rfl,ho,⟨mb',vk',vg',⟨hm,ho.good h.good⟩,fun j hj=>(hb j hj).elim (hS j) (hn j)⟩,hu.mono (fun j _ hj=>by subst hj;exact hS _ (.inl rfl))⟩
end Go.Proofs.YtfhfbpmlnjdfoaaGreatDoor.EvG
namespace Go.Proofs.YtfhfbpmlnjdfoaaGreatDoor
open Go Go.RowKit Tryz
def zal(own:Nat->Nat)(w:World)(c:Nat)(n:CaN)(p:CaP)(a:CaS)(e:Ending)(w':World):Prop:=
 ∃key code K' A' H',e=.returned (.tuple #[.int .i64 key,.int .i64 code])/\EvG.EvOut (cleanB a.ps) n.sl a.K a.A a.H key code K' A' H'/\∃own',CaAt own' w' c n p {a with K:=K',A:=A',H:=H'}/\Did own own' w w'
section
variable{own:Nat->Nat}{w w':World}{c:Nat}{n:CaN}{p:CaP}{a:CaS}
theorem Rz(h:CaAt own w c n p a):EvG.MayIs (ptr c) (cleanB a.ps) w:=fun _ k _ hu=>rj (h.new hu) k
theorem Tu(h:CaAt own w c n p a):Calls prog 165 #[ptr p.ck,EvG.mayV (ptr c)] w (zal own w c n p a):=
 (EvG.evict_ck h.open8 (fun _ h=> .inr h) (ptr c) (cleanB a.ps) (Rz h)).mono fun _ _ ⟨key,code,K',A',H',he,ho,hc,hu⟩=>⟨key,code,K',A',H',he,ho,_,h.turn8 hu hc,h.did8 hu⟩
end
abbrev CaS.noted(n:CaN)(a:CaS)(op block slot:Int)(d:Bool)(sum:Int):CaS:={a with next:=a.next+1,W:=a.W++[(a.next,sectR (jaddX a.next n.jo op block slot d sum))]}
abbrev CaS.left(n:CaN)(a:CaS)(k:Int):CaS:={a.noted n 1 k 0 false 0 with ps:=dropL a.ps k,sums:=upd1 a.sums k none,st:=turnList a.st (getV a.ps k).1 3}
theorem Xp{own:Nat->Nat}{w:World}{c:Nat}{n:CaN}{p:CaP}{a:CaS}(h:CaAt own w c n p a)(k:Int)(hg:getC a.ps k=0)(hroom:a.next<=a.cov+n.jo)(hmx:a.next<=1099511627776)(hmay:mayR (jaddX a.next n.jo 1 k 0 false 0)=true):
  Calls prog 167 #[ptr c,.int .i64 k] w (zv own w c n p (a.left n k) (.int .i64 (turnCode a.st (getV a.ps k).1 3))):=by
 have hkr:0<=k/\k<4096:=by
  have h1:=h.pl;have h2:=h.ok.b2;unfold getC at hg;split at hg
  .cases hg
  .omega
 obtain⟨hk0,hk1⟩:=hkr;have HJ:=qqh (ZT h hroom hmx 0 0 1 k 0 false 0 hmay);obtain⟨-,-,-,d3,d4,-,-,-,-⟩:=h.cells;have H:=Y2 h hg;clear h hg hroom hmx hmay;go_enter func167,ntmps167
 go_wp2_with fail
 refine HJ.o.mono ?_;rintro e w1 ⟨rfl,own1,h1,hd1⟩;have HP:=qqh (Ed h1 k);obtain⟨-,-,-,-,e4,-,-,-,-⟩:=h1.cells;have H1:=qqh hd1;clear h1 hd1 HJ d3 d4;go_wp2_with fail
 refine HP.o.mono ?_;rintro e w2 ⟨rfl,own2,h2,hd2⟩;have hg:=H.o.2;obtain⟨s,hs⟩:=qqe ((getV a.ps k).1);obtain⟨db,hdb⟩:=qqe ((getV a.ps k).2);rw[hg];have hua:Upd (fun _=>False) w2 (w2.alloc (.cells #[.int .i64 s,.bool db] 95)):=(uur _ _).alloc _;have h2a:=h2.new hua;have c0:(w2.alloc (.cells #[.int .i64 s,.bool db] 95)).cell? ⟨w2.heap.size,0,none⟩=some (.int .i64 s):=za (zc w2 _ rfl) 0;have hm2:own2 w2.heap.size=0:=h2.far _ (qXv _);have hdall:=(H1.o.trans hd2).trans (h2.ki hua);rw[<-hs,<-hdb];obtain⟨w3,own3,hrun,h3,hd3⟩:=zak h2a (x:=k) oM oM 0;obtain⟨-,-,-,-,-,-,-,-,f8⟩:=h2a.cells;obtain⟨-,-,-,-,-,g5,-,-,-⟩:=h3.cells;have c3:=hd3.upd.j4 c0 (fun h=>h.1 hm2);obtain⟨m,hm⟩:=qqe (w2.heap.size);have HO:Hid (own3 m=0):=(hd3.old m (by rw[hm];simp)).trans (by rw[hm];exact hm2);have HD:=Y3 h3 (hdall.trans hd3) hs;have HM:=qqh hm;rw[<-hm]at c3;clear hua h2a c0 hm2 hdall h3 hd3 h2 hd2 HP hg hs hdb hm;go_upto_region 8 with fail
 rw[<-HM.o];refine qZj (S:=fun W=>W.cell? ⟨c,19,none⟩=some (ptr p.ss)/\W.cell? ⟨m,0,none⟩=some (.int .i64 s)) kR (by(simp only[qYo]);exact⟨g5,c3⟩) (fun hHeld=>?_);refine Wl.i [0,1,2,3,4,5] ?_;iterate 6 refine Wl.t hHeld ?_
 refine Wl.o ?_;refine Wl.r 6 (fun K hK=>?_);go_simp
 have HT:=qqh (xg (HD.o.1.new ((uur (fun _=>False) w3).drew)) s 3);refine HT.o.mono ?_;rintro e w4 ⟨rfl,own4,h4,hd4⟩;obtain⟨-,-,-,-,-,i5,-,-,-⟩:=h4.cells;have c4:=hd4.upd.j4 (show w3.drew.cell? ⟨m,0,none⟩=some (.int .i64 s) by rw[qYo];exact c3) (fun h=>h.1 HO.o);have H4:=Y2 h4 hd4;clear h4 hd4;refine hK.o _ _ (⟨i5,c4⟩) (fun hH1=>?_);clear hK K;refine Wl.r 7 (fun K hK=>?_);go_simp
 refine hK.o _ _ (hH1) (fun hH2=>?_);clear hK K;refine Wl.d ?_;go_wp2
 go_ret
 have hs:=HD.o.2.2;subst hs;exact⟨rfl,own4,H4.o.1,(HD.o.2.1.drew).trans H4.o.2⟩
abbrev CaS.kM(n:CaN)(a:CaS)(k:Int):CaS:={a.left n k with K:=a.K.erase k,A:=dropA a.K a.A k}
theorem Xq{own:Nat->Nat}{w:World}{c:Nat}{n:CaN}{p:CaP}{a:CaS}(h:CaAt own w c n p a)(k:Int)(hg:getC a.ps k≠0):
  Calls prog 230 #[ptr c,.int .i64 k] w (zv own w c n p a (.int .i64 0)):=by
 have HG:=qqh (ri h k);obtain⟨-,-,-,-,d4,-,-,-,-⟩:=h.cells;clear h;have q0:(getC a.ps k==0)=false:=by simpa using hg
 go_enter func230,ntmps230
 go_wp2_with fail
 refine HG.o.mono ?_;rintro e w1 ⟨rfl,own1,h1,hd1⟩;have H1:=Y2 h1 hd1;clear h1 hd1 HG d4;generalize getV a.ps k=pv at*;generalize getC a.ps k=cd at*;obtain⟨s,b⟩:=pv;go_wp2
 go_ret
 have hu:=(uur (fun _=>False) w1).alloc (.cells #[.int .i64 s,.bool b] 95);exact⟨rfl,own1,H1.o.1.new hu,H1.o.2.trans (H1.o.1.ki hu)⟩
theorem ZU{own:Nat->Nat}{w:World}{c:Nat}{n:CaN}{p:CaP}{a:CaS}(h:CaAt own w c n p a)(k:Int)(hg:getC a.ps k=0)(hroom:a.next<=a.cov+n.jo)(hmx:a.next<=1099511627776)(hmay:mayR (jaddX a.next n.jo 1 k 0 false 0)=true)
  (ht:turnCode a.st (getV a.ps k).1 3=0):
  Calls prog 230 #[ptr c,.int .i64 k] w (zv own w c n p (a.kM n k) (.int .i64 (touchC a.K k))):=by
 have HG:=qqh (ri h k);obtain⟨-,-,-,-,d4,-,-,-,-⟩:=h.cells;have HR:=Y5 hg hroom hmx hmay ht;rw[hg]at HG;clear h hg hroom hmx hmay ht;go_enter func230,ntmps230
 go_wp2_with fail
 refine HG.o.mono ?_;rintro e w1 ⟨rfl,own1,h1,hd1⟩;obtain⟨s,hs⟩:=qqe ((getV a.ps k).1);obtain⟨b,hb⟩:=qqe ((getV a.ps k).2);have hu:=(uur (fun _=>False) w1).alloc (.cells #[.int .i64 s,.bool b] 95);obtain⟨w2,hw2⟩:=qqe (w1.alloc (.cells #[.int .i64 s,.bool b] 95));rw[<-hw2]at hu;have h2:=h1.new hu;have HD:=qqh (hd1.trans (h1.ki hu));have HL:=qqh (Xp h2 k HR.o.1 HR.o.2.1 HR.o.2.2.1 HR.o.2.2.2.1);have HW:=qqh hw2;rw[<-hs,<-hb];clear h1 hd1 HG d4 hu h2 hs hb hw2;go_wp2_with fail
 rw[<-HW.o];refine HL.o.mono ?_;rw[HR.o.2.2.2.2];rintro e w3 ⟨rfl,own3,h3,hd3⟩;obtain⟨-,-,-,-,-,-,-,d7,-⟩:=h3.cells;have HK:=qqh (Ru h3 k);have H3:=qqh (HD.o.trans hd3);clear h3 hd3 HL;go_wp2_with fail
 refine HK.o.mono ?_;rintro e w4 ⟨rfl,own4,h4,hd4⟩;have H4:=Y2 h4 hd4;clear h4 hd4 d7 HK;go_wp2
 go_ret
 exact⟨rfl,own4,H4.o.1,H3.o.trans H4.o.2⟩
theorem ZV(l:List Int):(allocList l).length=l.length:=by simp[allocList]
section
variable{own:Nat->Nat}{w w':World}{c:Nat}{n:CaN}{p:CaP}{a:CaS}
theorem RB(h:CaAt own w c n p a):
  Calls prog 324 #[ptr p.ss] w (zv own w c n p {a with st:=allocList a.st} (.tuple #[.int .i64 (allocVal a.st),.int .i64 (allocCode a.st)])):=by
 obtain⟨v,hi,hb,hs⟩:=h.open6;exact(UD hi).mono fun _ _ ⟨he,hi',hu⟩=>
  have hu':=hu.mono (fun j _ hj=>hs j hj)
  ⟨he,_,h.turn6 hu' ⟨v,hi',hb,hs⟩ (ZV _),h.did6 hu'⟩
theorem uI(h:CaAt own w c n p a)(st:Int):
  Calls prog 84 #[ptr p.ss,.int .i64 st] w (zv own w c n p a (.int .i64 (pos a.st st).length)):=by
 obtain⟨v,hi,-,-⟩:=h.ss;exact(UG hi st (by rw[h.sl];exact h.ok.s1)).mono fun _ _ ⟨he,hb⟩=>⟨he,own,h.new (uuo hb),h.ki (uuo hb)⟩
end
open Go Go.RowKit Go.Shelf Tryz
attribute [local go_sem] qYh
theorem Ss.exact{S:Nat->Prop}{w:World}{b:Nat}{l:List Int}(h:Ss S w b l):∃S0:Nat->Prop,Ss S0 w b l/\(∀j,S0 j->S j)/\∀j,S0 j->∃cs t z,w.heap[j]?=some (.cells cs t z):=by
 obtain⟨v,h,hb,hs⟩:=h;refine⟨fun j=>j=b\/v.ownBlock=some j,⟨v,h,.inl rfl,fun j hj=> .inr hj⟩,fun j hj=>by rcases hj with rfl|hj;exact hb;exact hs j hj,fun j hj=>?_⟩;rcases hj with rfl|hj
 .exact ⟨_,_,_,h.str⟩
 .rcases h.sl with⟨-,⟨e,-⟩|⟨g,off,cap,cur,e,hg,-⟩⟩
  .rw [e]at hj;cases hj
  .rw [e]at hj;cases hj;exact⟨_,_,_,hg⟩
theorem Ss.grown{S:Nat->Prop}{w w':World}{b:Nat}{l:List Int}{row:Option Nat}(h:Ss S w b l)(hg:w.grownBy w' row)(hr:∀r,row=some r->∃o:Obj,w.heap[r]?=some o/\o.isCells=false):Ss S w' b l:=by
 obtain⟨S0,h0,hs,hc⟩:=h.exact;have:=(Ss.kU b l).keep h0 (Upd.kB (S:=fun j=>row=some j) hg (fun g e _=>e)) (fun j hj e=>by
  obtain⟨cs,t,z,hj'⟩:=hc j hj;exact Wc hj' hg hr e)
 exact(Ss.kU b l).out this (fun j _ hj=>hs j hj)
theorem zcw{S:Nat->Prop}{w:World}{b:Nat}{l:List Int}(h:Ss S w b l)(ht:Tur w)(slot state:Int):
  Calls prog 176 #[ptr b,.int .i64 slot,.int .i64 state] w fun e w'=>e=.returned (.int .i64 (turnCode l slot state))/\Ss S w' b (turnList l slot state)/\Upd S w w':=by
 obtain⟨v,h,hb,hs⟩:=h;exact(YB h ht slot state).mono fun _ _ ⟨he,h',hu⟩=>⟨he,⟨v,h',hb,hs⟩,hu.mono (fun k _ hk=>hs k hk)⟩
theorem ZW(l:List Int)(slot state:Int):(turnList l slot state).length=l.length:=by unfold turnList;split<;>simp
def freeTo(l:List Int)(pre:List Nat):List Int:=pre.foldl (fun(l:List Int) (k:Nat)=>turnList l (k:Int) 0) l
theorem Xr(l:List Int)(pre:List Nat)(x:Nat):freeTo l (pre++[x])=turnList (freeTo l pre) (x:Int) 0:=by simp[freeTo]
theorem rk(l:List Int)(pre:List Nat):(freeTo l pre).length=l.length:=by
 induction pre generalizing l with
 |nil=>rfl
 |cons x pre ih=>exact(ih (turnList l (x:Int) 0)).trans (ZW _ _ _)
section
variable{own:Nat->Nat}{w w':World}{c:Nat}{n:CaN}{p:CaP}{a:CaS}
def Ef(own:Nat->Nat)(w:World)(c:Nat)(n:CaN)(p:CaP)(a:CaS)(e:Ending)(w':World):Prop:=zv own w c n p {a with st:=freeTo a.st (pos a.st 3)} (.tuple #[]) e w'
theorem Uc(h:CaAt own w c n p a):Calls prog 102 #[ptr c] w (Ef own w c n p a):=by
 have hu0:Upd (fun _=>False) w (w.alloc (.cells #[ptr c] 62)):=(uur _ w).alloc _;have h1:=h.new hu0;have bO0:Boxed (w.alloc (.cells #[ptr c] 62)) w.heap.size 62 (ptr c):=Boxed.new w _ _;obtain⟨d0,d1,d2,d3,d4,d5,d6,d7,d8⟩:=h1.cells;obtain⟨vs,hss,hsb,hsv⟩:=h1.ss;have hpos:0<a.st.length:=by have:=h.sl;have:=h.ok.s1;omega
 have hA:=Vq hss 3 hpos;have hle:=hss.le;have HC:=Y4 h hu0 h1 hA;have hz:(w.alloc (.cells #[ptr c] 62)).heap.size=w.heap.size+1:=oe;have hcl:=h.clt;clear h hu0 h1 hA hss hsb hsv d0 d1 d2 d3 d4 d6 d7 d8;refine(callsIn_wide (n:=3)).1 ?_;refine callsIn_of_wp_marks func102 rfl trivial ?_ rfl;simp only[ntmps102,qXm,qze,qzh,Nat.reduceAdd,Nat.reduceSub,qxi,qxj,qXg,qxz,qzz,qya]
 gi_wp2_with (refine⟨trivial,?_⟩;gi_at_call 159;refine(callsIn_wide.2 HC.o.2.2.2).mono ?_;rintro e w1 ⟨Bs,Bt,g,off,cap,rfl,hge,hBs,hBt,hg,hcs,hct,hcl,hb1⟩)
 have hsz:=hb1.size;rw[hz]at hsz hge;have hu1:Upd (fun _=>False) w w1:=HC.o.2.1.trans (uuo hb1);have hca:=HC.o.1.new hu1;have bO:Boxed w1 w.heap.size 62 (ptr c):=(hb1.block _ (by rw[hz];omega)).trans bO0;have hS:Hid (∀j,¬(own j=6)->j<w1.heap.size->¬(w1.heap.size<=j\/own j=6)):=fun j h1 h2 h=>by rcases h with h|h;omega;exact h1 h
 have hfar:Hid (∀j,w.heap.size<=j->¬own j=6):=fun j hj e=>by rw[HC.o.1.far j hj]at e;exact absurd e de
 have HA:=qqh hca;clear hca;refine wpIn_rangeFunc_ownF rfl oM (gf:=227) (lb:= #[.pointer (some ⟨Bs,0,none⟩),.pointer (some ⟨Bt,0,none⟩)]) rfl trivial (enters_of func227 kR rfl)
  (sJ Fence.wide _ trivial rfl oM (fun j=>w1.heap.size<=j\/own j=6) Bs Bt g off cap a.st 3 w1 hle hg hBt hBs (hS.out _ (hfar.out _ oM) hg) (hS.out _ (hfar.out _ oM) hBt) hcs hct hcl) uR (fun W l o o' hl=>wN (M:=w1.heap.size) (fun j h=> .inl h) W l o o' hl) (qxl _ _) (fun _=>rfl)
  (fun pre W=>Ss (fun j=>own j=6) W p.ss (freeTo a.st pre)/\Upd (fun j=>w1.heap.size<=j\/own j=6) w1 W)
  (fun _ _ _=>False)
  (fun pre X Y row hs hg hr=>⟨hs.1.grown hg (fun r e=>(hr r e).2),xt hs.2 hg (fun r e=> .inl (hr r e).1)⟩)
  (fun _ _ _ _ _ hs _ _=>hs)
  ⟨HA.o.ss,uur _ _⟩
  (fun x=>{tmps:= #[ptr c,.pointer (some ⟨w.heap.size,0,none⟩),.int .i64 (x:Int),ptr c,ptr c,.pointer (some ⟨c,19,none⟩),ptr p.ss,.func (.func 227) #[] #[.pointer (some ⟨Bs,0,none⟩),.pointer (some ⟨Bt,0,none⟩)],.int .i64 (x:Int),undef,undef,undef,undef,undef,undef],defers:=[]}) ?assign ?body ?done ?stop
 case assign=>
  intro l x W K hK
  gi_wp2
  simpa using hK
 case body=>
  rintro l pre x W ⟨hv,hu⟩ hlt;have hb:=hu.block _ (zf bO) (hS.out _ (hfar.out _ (qXv _)) (zf bO))|>.trans bO
  have hc1:W.cell? ⟨w.heap.size,0,none⟩=some (ptr c):=za hb 0;have hstr:=(hu.block c HA.o.clt (hS.out _ (by rw[HA.o.oc];decide) HA.o.clt)).trans HA.o.str;have hc2:W.cell? ⟨c,19,none⟩=some (ptr p.ss):=za hstr 19;have htu:=HA.o.tur.keep hu (hS.out _ (by rw[HA.o.ot];decide) HA.o.tur.lt);obtain⟨S0,h0,hs0,hcs0⟩:=hv.exact;have HT:=Y4 (zcw h0 htu (x:Int) 0) hu hs0 hcs0;clear hv hu hb hstr htu h0 hs0 hcs0
  gi_wp2_with ((first|(refine⟨trivial,fun _=>oM,?_⟩)|(refine⟨trivial,?_⟩)|skip);gi_at_call 176;refine(CallsIn.inRound l (callsIn_wide.2 HT.o.1)).mono ?_;rintro e W2 ⟨rfl,hs2,hu2⟩)
  obtain⟨hT,hu,hs0,hcs0⟩:=HT.o;refine⟨zD hu2 (fun j hj _=>hcs0 j hj),hu2.mono (fun k _ hk=> .inr (hs0 k hk)),?_,hu.trans (hu2.mono (fun k _ hk=> .inr (hs0 k hk)))⟩;rw[Xr];exact(Ss.kU _ _).out hs2 (fun j _ hj=>hs0 j hj)
 case done=>
  rintro D ys W hD rfl ⟨hv,hu⟩ hK
  gi_wp2
  refine⟨oe,.inl ⟨_,_,rfl,run_takeDeferred hK,?_⟩⟩;refine⟨_,qZc rfl _ _ _,?_⟩;have hW:=wN (S:=fun j=>w1.heap.size<=j\/own j=6) (M:=w1.heap.size) (fun j h=> .inl h) W D _ (.deferred none) hD hK rfl rfl;have hv2:=hv.grown (grownBy_putObj' W D (.deferred none)) (fun r e=>by cases e;exact⟨_,hK,rfl⟩);have hu2:Upd (fun j=>own j=6\/w.heap.size<=j) w (W.putObj D (.deferred none)):=(hu1.mono fE).new (hu.trans hW) (fun i hi hs=>by rcases hs with hs|hs;omega;exact .inl hs);have hsz2:=hu2.size;exact⟨rfl,_,HC.o.1.turn6 hu2 ((Ss.kU _ _).out hv2 (fun j _ hj=> .inl hj)) (rk _ _),HC.o.1.did6 hu2⟩
 case stop=>
  rintro D c pre W _ _ h _;exact h.elim
end
end Go.Proofs.YtfhfbpmlnjdfoaaGreatDoor
