/- Drawn proofs and trivial proofs: plain Lean, and walked. -/
import Derived.Test.YtjjheilajcepfaaGreatDoorF
import Derived.Test.YtjjheilajcepfaaGreatDoorH
import Derived.Test.YtjjheilajcepfaaGreatDoorE
set_option linter.unusedVariables false
set_option linter.unusedSimpArgs false
set_option maxRecDepth 10000
set_option maxHeartbeats 4000000
open Go.Proofs
/- Drawn proofs are accepted; proofs are read back from their texts: plain Lean. -/
namespace Go.Al
variable{L:Nat}(h1:4096≤L)(h2:L≤1073741824)
open Go.Lib Go.Proofs
theorem oi{c:UInt8}: ∀{p:aQ},c ∉ p→b0 c p=[p]
 | [],_=>rfl
 | b::p,h=>by
  rw[b0,if_neg (fun e=>h (by rw[e];exact List.mem_cons_self ..)),oi (fun hh=>h (List.mem_cons_of_mem _ hh))];rfl
theorem iv{c:UInt8}: ∀{ps:List aQ},ps≠[]→(∀p∈ps,c ∉ p)→b0 c (bB c ps)=ps
 | [],h,_=>absurd Z h
 | [p],_,h=>by rw[bB];exact oi (h p (by simp))
 | p::q::r,_,h=>by
  rw[bB,ol _ (h p (by simp)),iv (by simp) (fun x hx=>h x (List.mem_cons_of_mem _ hx))]
theorem jC{T:Type}{rd:aQ→Option T}{tx:T→aQ}: ∀{ts:List T},(∀t∈ts,rd (tx t)=some t)→bH rd (ts.map tx)=some ts
 | [],_=>rfl
 | t::ts,h=>by
  rw[List.map_cons,bH,h t (by simp),jC (fun x hx=>h x (List.mem_cons_of_mem _ hx))]
theorem pm{n:Int}: ∀b∈itoa n,kv b=true∨b=45:=by
 intro b hb
 unfold itoa at hb
 split at hb
 rcases List.mem_cons.1 hb with rfl|hb
 exact .inr Z
 exact .inl (ct _ b hb)
 exact .inl (ct _ b hb)
theorem jF{n:Int}{c:UInt8}(h:kv c=false)(h2:c≠45):c ∉ itoa n:=fun hc=>by
 rcases pm c hc with h3|h3
 rw[h]at h3;cases h3
 exact h2 h3
theorem su{n:Int}:itoa n≠[]:=by
 unfold itoa
 split
 simp
 exact cM _
theorem qZ{ms:List Int}(h: ∀m∈ms,-1000000000≤m∧m≤1000000000):rC (bB 44 (ms.map itoa))=some ms:=by
 unfold rC
 cases ms with
 | nil=>rfl
 | cons m r=>
  have hne:bB 44 ((m::r).map itoa)≠[]:=by
   cases r with
   | nil=>exact su
   | cons x r=>rw[List.map_cons,List.map_cons,bB];simp
  rw [if_neg hne,iv (by simp) (fun p hp=>by
   obtain⟨x,_,rfl⟩:=List.mem_map.1 hp
   exact jF (by decide) (by decide))]
  exact jC fun x hx=>(om _ _).2 ⟨h x hx,Z⟩
theorem n8{t:Tm}(h:t.zero=true):t=⟨0,[]⟩:=by
 obtain⟨c,xs⟩:=t
 simp only[Tm.zero,aN,decide_eq_true_eq]at h
 obtain⟨rfl,h2⟩:=h
 obtain rfl:xs=[]:=List.eq_nil_of_length_eq_zero (by omega)
 rfl
theorem qM{x:Nd}(h:cQ x=true):oR (bz x)=some x:=by
 obtain⟨k,f,t,ms⟩:=x
 unfold cQ at h
 split at h
 rename_i hk
 have hk:k=1:=hk
 subst hk
 simp only[aN,decide_eq_true_eq,kl]at h
 obtain⟨⟨hf,ht⟩,hm,_⟩:=h
 have hf:f=0:=hf
 subst hf
 obtain rfl:=n8 ht
 have hm2: ∀m∈ms,-1000000000≤m∧m≤1000000000:=fun m hmm=>by
  have:=List.all_eq_true.1 hm m hmm
  simp only[co,aN,decide_eq_true_eq]at this
  omega
 have e:bz ⟨1,0,⟨0,[]⟩,ms⟩=99::bB 44 (ms.map itoa):=rfl
 unfold oR kq
 rw[e]
 simp only[List.cons_ne_nil,if_false,List.getD_cons_zero,if_true,List.drop_succ_cons,List.drop_zero,qZ hm2]
 split at h
 rename_i hk0 hk
 have hk:k=2:=hk
 subst hk
 simp only[aN,decide_eq_true_eq]at h
 obtain⟨⟨hf,ht⟩,hm⟩:=h
 have hf:f=0:=hf
 subst hf
 obtain rfl:ms=[]:=List.eq_nil_of_length_eq_zero (by simpa using hm)
 have e:bz ⟨2,0,t,[]⟩=115::tS t:=rfl
 have hr:mS (tS t)=some t:=(r8 _ _).2 ⟨ht,rfl⟩
 unfold oR kq
 rw[e]
 simp only[List.cons_ne_nil,if_false,List.getD_cons_zero,if_true,List.drop_succ_cons,List.drop_zero,hr,show¬((115:UInt8)=99) by decide]
 rfl
 split at h
 rename_i hk0 hk1 hk
 have hk:k=3:=hk
 subst hk
 simp only[aN,decide_eq_true_eq]at h
 obtain⟨⟨hf,ht⟩,hm⟩:=h
 obtain rfl:ms=[]:=List.eq_nil_of_length_eq_zero (by simpa using hm)
 obtain rfl:=n8 ht
 have hf2:=hf
 simp only[jg,aN,decide_eq_true_eq]at hf2
 have e:bz ⟨3,f,⟨0,[]⟩,[]⟩=116::itoa f:=rfl
 have hr:iH (itoa f)=some f:=(om _ _).2 ⟨by omega,rfl⟩
 unfold oR kq
 rw[e]
 simp only[List.cons_ne_nil,if_false,List.getD_cons_zero,if_true,List.drop_succ_cons,List.drop_zero,hr,show¬((116:UInt8)=99) by decide,show¬((116:UInt8)=115) by decide]
 rfl
 cases h
theorem qI: ¬nX 47:=by
 rintro(h|h|h|h)<;>revert h<;>decide
theorem kP{c b:UInt8}: ∀{ps:List aQ},b∈bB c ps→b=c∨∃p∈ps,b∈p
 | [],h=>by cases h
 | [p],h=>.inr ⟨p,by simp,h⟩
 | p::q::r,h=>by
  rw[bB]at h
  rcases List.mem_append.1 h with h|h
  exact .inr ⟨p,by simp,h⟩
  rcases List.mem_cons.1 h with h|h
  exact .inl h
  rcases kP h with h|⟨x,hx,h⟩
  exact .inl h
  exact .inr ⟨x,List.mem_cons_of_mem _ hx,h⟩
theorem sj{x:Nd}(h:cQ x=true):(47:UInt8) ∉ bz x:=by
 unfold bz
 split
 intro hh
 rcases List.mem_cons.1 hh with hh|hh
 revert hh;decide
 rcases kP hh with hh|⟨p,hp,hh⟩
 revert hh;decide
 obtain⟨n,_,rfl⟩:=List.mem_map.1 hp
 exact jF (by decide) (by decide) hh
 split
 rename_i h0 h1
 have ht:x.term.ok=true:=by
  unfold cQ at h
  rw[if_neg h0,if_pos h1]at h
  simp only[aN]at h
  exact h.1.2
 intro hh
 rcases List.mem_cons.1 hh with hh|hh
 revert hh;decide
 exact qI (rX ht _ hh)
 split
 intro hh
 rcases List.mem_cons.1 hh with hh|hh
 revert hh;decide
 exact jF (by decide) (by decide) hh
 simp
theorem sd{p:List Nd}(h:gD p=true):rP (sK p)=some p:=by
 obtain⟨h1,h2,h3,h4⟩:=eF h
 unfold rP sK
 rw [iv (by cases p with
  | nil=>simp at h1
  | cons x r=>simp) (fun s hs=>by
  obtain⟨x,hx,rfl⟩:=List.mem_map.1 hs
  exact sj (h3 x hx)),jC fun x hx=>qM (h3 x hx)]
 simp only
 rw[fw,if_pos h]
end Go.Al
/- Drawn proofs are accepted: plain Lean. -/
namespace Go.Al
variable{L:Nat}(h1:4096≤L)(h2:L≤1073741824)
open Go.Lib Go.Proofs
def mU:Nat→Src→List Int→List Int×Src
  | 0,s,xs=>(xs,s)
  | k+1,s,xs=>mU k (s.pick 7).2 (xs++[(s.pick 7).1-3])
def tl(l:List Int×Src):Tm×Src:=((k5 ((l.2.pick 21).1-10) l.1).1,(l.2.pick 21).2)
def er(s:Src):Tm×Src:=tl (mU (s.pick 4).1.toNat (s.pick 4).2 [])
theorem qA: ∀{k:Nat} {s:Src} {xs:List Int},(mU k s xs).2.at_≤s.at_+2*k
 | 0,s,xs=>bP _
 | k+1,s,xs=>by
  have h1:=qA (k:=k) (s:=(s.pick 7).2) (xs:=xs++[(s.pick 7).1-3])
  have h2:=bI (s:=s) (n:=7)
  rw[mU];omega
theorem na: ∀{k:Nat} {s:Src} {xs:List Int},s.Ok→(mU k s xs).2.Ok
 | 0,s,xs,h=>h
 | k+1,s,xs,h=>by rw[mU];exact na h.pick
theorem oH: ∀{k:Nat} {s:Src} {xs:List Int},(mU k s xs).1.length=xs.length+k
 | 0,s,xs=>rfl
 | k+1,s,xs=>by rw[mU,oH];simp;omega
theorem qz: ∀{k:Nat} {s:Src} {xs:List Int},s.Ok→(∀x∈xs,x.natAbs≤3)→∀x∈(mU k s xs).1,x.natAbs≤3
 | 0,s,xs,_,h=>h
 | k+1,s,xs,hs,h=>by
  rw[mU]
  refine qz hs.pick fun x hx=>?_
  rcases List.mem_append.1 hx with hx|hx
  exact h x hx
  have:=bv hs (n:=7) (by omega)
  simp only[List.mem_singleton]at hx;subst hx;omega
theorem gq{s:Src}(h:s.Ok):(er s).2.Ok:=(na h.pick).pick
theorem m9{s:Src}(h:s.Ok):(er s).2.at_≤s.at_+10:=by
 have h0:=bv h (n:=4) (by omega)
 have h1:=bI (s:=s) (n:=4)
 have h2:=qA (k:=(s.pick 4).1.toNat) (s:=(s.pick 4).2) (xs:=[])
 have h3:=bI (s:=(mU (s.pick 4).1.toNat (s.pick 4).2 []).2) (n:=21)
 show((mU (s.pick 4).1.toNat (s.pick 4).2 []).2.pick 21).2.at_≤_
 omega
structure Sm0(B C:Nat)(t:Tm):Prop where
  ok:t.ok=true
  c:t.c.natAbs≤B
  xs: ∀x∈t.xs,x.natAbs≤C
theorem Sm0.get{B C:Nat}{t:Tm}(h:Sm0 B C t)(k:Nat):(t.xs.getD k 0).natAbs≤C:=by
 by_cases hk:k<t.xs.length
 rw[List.getD_eq_getElem?_getD,List.getElem?_eq_getElem hk];exact h.xs _ (List.getElem_mem hk)
 rw[List.getD_eq_getElem?_getD,List.getElem?_eq_none (by omega)];simp
theorem oe{xs:List Int}{x:Int}(h:x∈aS xs):x∈xs:=by
 unfold aS at h
 have h:=(List.dropWhile_sublist _).mem (List.mem_reverse.1 h)
 exact List.mem_reverse.1 h
theorem mZ{c:Int}{xs:List Int}{B C:Nat}(hB:c.natAbs≤B)(hx: ∀x∈xs,x.natAbs≤C)(h1:B≤1000000)(h2:C≤1000000)(hl:xs.length≤10):k5 c xs=(⟨c,aS xs⟩,true)∧Sm0 B C ⟨c,aS xs⟩:=by
 have hok:(Tm.mk c (aS xs)).ok=true:=by
  refine xb.2 ⟨wc.2 (by show -1000000≤c∧c≤1000000;omega),List.all_eq_true.2 fun x hx'=>wc.2 ?_,Nat.le_trans (mI xs) hl,qH xs⟩
  have:=hx x (oe hx')
  omega
 refine⟨?_,hok,hB,fun x hx'=>hx x (oe hx')⟩
 unfold k5
 rw[if_pos hok]
theorem m8{s:Src}(h:s.Ok):Sm0 10 3 (er s).1:=by
 have h0:=bv h (n:=4) (by omega)
 have h1:=bv (na (k:=(s.pick 4).1.toNat) (xs:=[]) (h.pick (n:=4))) (n:=21) (by omega)
 have h2:=oH (k:=(s.pick 4).1.toNat) (s:=(s.pick 4).2) (xs:=[])
 rw[List.length_nil]at h2
 have h3:=mZ (c:=((mU (s.pick 4).1.toNat (s.pick 4).2 []).2.pick 21).1-10) (xs:=(mU (s.pick 4).1.toNat (s.pick 4).2 []).1) (B:=10) (C:=3) (by omega) (qz h.pick (by simp)) (by omega) (by omega) (by omega)
 show Sm0 10 3 (k5 _ _).1
 rw[h3.1];exact h3.2
theorem jb{m x:Int}{M B:Nat}(h1:m.natAbs≤M)(h2:x.natAbs≤B):(m*x).natAbs≤M*B:=by
 rw[Int.natAbs_mul];exact Nat.mul_le_mul h1 h2
theorem eW{a b:Tm}{m n:Int}{B C B' C' M N:Nat}(ha:Sm0 B C a)(hb:Sm0 B' C' b)(hm:m.natAbs≤M)(hn:n.natAbs≤N)(h1:M*B+N*B'≤1000000)(h2:M*C+N*C'≤1000000) :
    jj a m b n=(⟨m*a.c+n*b.c,aS (dB a m b n)⟩,true)∧Sm0 (M*B+N*B') (M*C+N*C') ⟨m*a.c+n*b.c,aS (dB a m b n)⟩:=by
 refine mZ ?_ (fun x hx=>?_) h1 h2 (by rw[aY];omega)
 have e1:=jb hm ha.c
 have e2:=jb hn hb.c
 omega
 obtain⟨k,_,rfl⟩:=List.mem_map.1 hx
 have e1:=jb hm (ha.get k)
 have e2:=jb hn (hb.get k)
 omega
theorem jA{a b:Tm}{m n:Int}{k:Nat}(hk:k<10):cE k ⟨m*a.c+n*b.c,aS (dB a m b n)⟩=m*cE k a+n*cE k b:=by
 show(aS (dB a m b n)).getD k 0=_
 rw[kG,List.getD_eq_getElem?_getD]
 simp[dB,hk]
theorem Sm0.mono{B C B' C':Nat}{t:Tm}(h:Sm0 B C t)(h1:B≤B')(h2:C≤C'):Sm0 B' C' t:=⟨h.ok,Nat.le_trans h.c h1,fun x hx=>Nat.le_trans (h.xs x hx) h2⟩
theorem Sm0.const{n:Int}{B:Nat}(h:n.natAbs≤B)(hB:B≤1000000):Sm0 B 0 ⟨n,[]⟩:=by
 have:=mZ (c:=n) (xs:=[]) (B:=B) (C:=0) h (by simp) hB (by omega) (by simp)
 exact this.2
def rF:Nat→Src→List Tm→List Int→(List Tm×List Int)×Src
  | 0,s,ts,ws=>((ts,ws),s)
  | k+1,s,ts,ws=>rF k ((er s).2.pick 3).2 (ts++[(er s).1]) (ws++[((er s).2.pick 3).1])
structure DQOk(k:Nat)(ts:List Tm)(ws:List Int):Prop where
  len:ws.length=ts.length
  le:ts.length+k≤3
  ts: ∀t∈ts,Sm0 10 3 t
  ws: ∀w∈ws,0≤w∧w≤2
theorem DQOk.step{k:Nat}{s:Src}{ts:List Tm}{ws:List Int}(hs:s.Ok)(h:DQOk (k+1) ts ws):DQOk k (ts++[(er s).1]) (ws++[((er s).2.pick 3).1]):=by
 have h3:=bv (gq hs) (n:=3) (by omega)
 refine⟨by simp[h.len],by have:=h.le;simp;omega,fun t ht=>?_,fun w hw=>?_⟩
 rcases List.mem_append.1 ht with ht|ht
 exact h.ts t ht
 simp only[List.mem_singleton]at ht;subst ht;exact m8 hs
 rcases List.mem_append.1 hw with hw|hw
 exact h.ws w hw
 simp only[List.mem_singleton]at hw;subst hw;omega
theorem oD: ∀{k:Nat} {s:Src} {ts:List Tm} {ws:List Int},s.Ok→DQOk k ts ws→(rF k s ts ws).2.Ok∧DQOk 0 (rF k s ts ws).1.1 (rF k s ts ws).1.2∧(rF k s ts ws).2.at_≤s.at_+12*k
 | 0,s,ts,ws,hs,h=>⟨hs,h,bP _⟩
 | k+1,s,ts,ws,hs,h=>by
  have ih:=oD (k:=k) ((gq hs).pick (n:=3)) (h.step hs)
  have h1:=m9 hs
  have h2:=bI (s:=(er s).2) (n:=3)
  rw[rF]
  exact⟨ih.1,ih.2.1,by omega⟩
def mR(ts:List Tm)(ws:List Int):Nat→Tm
  | 0=>⟨0,[]⟩
  | i+1=>(jj (mR ts ws i) 1 (ts.getD i default) (ws.getD i default)).1
theorem ja{ts:List Tm}{ws:List Int}(h:DQOk 0 ts ws): ∀{i:Nat},i≤ts.length→Sm0 (20*i) (6*i) (mR ts ws i)∧(mR ts ws i).c=ba Tm.c (ts.take i) (ws.take i)∧∀k,k<10→cE k (mR ts ws i)=ba (cE k) (ts.take i) (ws.take i)
 | 0,_=>⟨Sm0.const (by simp) (by omega),by simp[mR,ba],fun k _=>by simp[mR,ba]⟩
 | i+1,hi=>by
  obtain⟨h1,h2,h3⟩:=ja h (i:=i) (by omega)
  have hw:i<ws.length:=by rw[h.len];omega
  have hle:=h.le
  have ht:=h.ts (ts.getD i default) (by rw[am (by omega)];exact List.getElem_mem _)
  have hm:=h.ws (ws.getD i default) (by rw[am hw];exact List.getElem_mem _)
  have hs:=eW (M:=1) (N:=2) h1 ht (m:=1) (n:=ws.getD i default) (by decide) (by omega) (by omega) (by omega)
  rw[mR,hs.1]
  refine⟨hs.2.mono (by omega) (by omega),?_,fun k hk=>?_⟩
  rw[dv (by omega) hw,←h2]
  show 1*_+_=_
  rw[Int.one_mul]
  rw[dv (by omega) hw,←h3 k hk,jA hk,Int.one_mul]
def mT(q:List Tm×List Int)(c:Int):Tm:=(jj (mR q.1 q.2 q.1.length) 1 ⟨c,[]⟩ 1).1
theorem oG{ts:List Tm}{ws:List Int}{c:Int}(h:DQOk 0 ts ws)(h0:0≤c)(h1:c≤3):Sm0 63 18 (mT (ts,ws) c)∧(mT (ts,ws) c).c=ba Tm.c ts ws+c∧∀k,k<10→cE k (mT (ts,ws) c)=ba (cE k) ts ws:=by
 obtain⟨g1,g2,g3⟩:=ja h (bP _)
 have hle:=h.le
 rw[←h.len,List.take_length]at g2
 rw[h.len,List.take_length]at g2
 have hs:=eW (M:=1) (N:=1) (g1.mono (B':=60) (C':=18) (by omega) (by omega)) (Sm0.const (n:=c) (B:=3) (by omega) (by omega)) (m:=1) (n:=1) (by decide) (by decide) (by omega) (by omega)
 unfold mT
 rw[hs.1]
 refine⟨hs.2.mono (by omega) (by omega),?_,fun k hk=>?_⟩
 show 1*(mR ts ws ts.length).c+1*c=_
 rw[g2,Int.one_mul,Int.one_mul]
 have g4:=g3 k hk
 rw[←h.len,List.take_length]at g4
 rw[h.len,List.take_length]at g4
 rw[jA hk]
 show 1*cE k (mR ts ws ts.length)+1*([]:List Int).getD k 0=_
 rw[g4,Int.one_mul];simp
abbrev gl(ctx:List Tm)(s:Src):Int×Src:=s.pick ctx.length
def ge(ctx:List Tm)(s:Src):Bool×Src:=if(cg (ctx.getD (gl ctx s).1.toNat default)).2=true then(decide (((gl ctx s).2.pick 2).1=0),((gl ctx s).2.pick 2).2)else(false,(gl ctx s).2)
def lV(ctx:List Tm)(ws:List Int):Nat→Src→List Nd→List Nd→List Int→List Nd×Src
  | 0,s,f,t,m=>(f++[iI (ws++m)]++t,s)
  | k + 1,s,f,t,m=>if(ge ctx s).1=true then lV ctx ws k (ge ctx s).2 (f++[rB (gl ctx s).1]) t (m++[0])
    else lV ctx ws k (er (ge ctx s).2).2 (f++[sL (er (ge ctx s).2).1]) ([iI (ws++(m++[0]))]++t) (m++[0])
def pS(ctx:List Tm)(ws:List Int):Nat→Src→List Int→Pf
  | 0,s,m=>.close (iI (ws++m))
  | k + 1,s,m=>if(ge ctx s).1=true then .tight (rB (gl ctx s).1) (pS ctx ws k (ge ctx s).2 (m++[0]))
    else .split (sL (er (ge ctx s).2).1) (pS ctx ws k (er (ge ctx s).2).2 (m++[0])) (.close (iI (ws++(m++[0]))))
theorem lA{ctx:List Tm}{ws:List Int}: ∀{k:Nat} {s:Src} {f t:List Nd} {m:List Int},(lV ctx ws k s f t m).1=f++(pS ctx ws k s m).flat++t
 | 0,s,f,t,m=>rfl
 | k+1,s,f,t,m=>by
  rw[lV,pS]
  split
  rw[lA];simp[Pf.flat]
  rw[lA];simp[Pf.flat]
theorem jJ{ctx:List Tm}{ws:List Int}: ∀{k:Nat} {s:Src} {m:List Int},(pS ctx ws k s m).size≤2*k+1
 | 0,s,m=>bP _
 | k+1,s,m=>by
  rw[pS]
  split
  have:=jJ (ctx:=ctx) (ws:=ws) (k:=k) (s:=(ge ctx s).2) (m:=m++[0])
  simp only[Pf.size];omega
  have:=jJ (ctx:=ctx) (ws:=ws) (k:=k) (s:=(er (ge ctx s).2).2) (m:=m++[0])
  simp only[Pf.size];omega
theorem lg{ctx:List Tm}{s:Src}(h:s.Ok):(ge ctx s).2.Ok:=by
 unfold ge;split
 exact h.pick.pick
 exact h.pick
theorem t3{ctx:List Tm}{s:Src}:(ge ctx s).2.at_≤s.at_+4:=by
 have h1:=bI (s:=s) (n:=ctx.length)
 have h2:=bI (s:=(s.pick ctx.length).2) (n:=2)
 unfold ge;split
 show((s.pick ctx.length).2.pick 2).2.at_≤_;omega
 show(s.pick ctx.length).2.at_≤_;omega
theorem sA{ctx:List Tm}{s:Src}(h:(ge ctx s).1=true):(cg (ctx.getD (gl ctx s).1.toNat default)).2=true:=by
 unfold ge at h;split at h
 assumption
 cases h
structure GOk'(ctx:List Tm)(ws:List Int)(m:List Int):Prop where
  cs: ∀t∈ctx,t.ok=true
  len:ws.length=ctx.length
  n0:0<ctx.length
  n4:ctx.length+m.length≤10
  ws: ∀w∈ws,0≤w∧w≤2
  m: ∀x∈m,x=0
theorem GOk'.step{ctx:List Tm}{ws m:List Int}(h:GOk' ctx ws m)(hl:ctx.length+m.length+1≤10):GOk' ctx ws (m++[0]):=
  ⟨h.cs,h.len,h.n0,by simp;omega,h.ws,fun x hx=>by
 rcases List.mem_append.1 hx with hx|hx
 exact h.m x hx
 simpa using hx⟩
theorem GOk'.close{ctx:List Tm}{ws m:List Int}(h:GOk' ctx ws m):cQ (iI (ws++m))=true:=by
 have h10:=h.n4
 have hl:=h.len
 unfold cQ
 rw[if_pos Z]
 have:kl (ws++m)=true:=by
  unfold kl
  rw[aN,List.all_eq_true]
  refine⟨fun x hx=>?_,decide_eq_true (by simp;omega)⟩
  rcases List.mem_append.1 hx with hx|hx
  have:=h.ws x hx;simp[co];omega
  rw[h.m x hx];rfl
 rw[this];rfl
theorem jM{f:Tm→Int}: ∀{ts us:List Tm} {ms ns:List Int},ms.length=ts.length→ba f (ts++us) (ms++ns)=ba f ts ms+ba f us ns
 | [],us,[],ns,_=>by simp[ba]
 | t::ts,us,m::ms,ns,h=>by
  rw[List.cons_append,List.cons_append,ba,ba,jM (by simpa using h)];omega
 | [],us,m::ms,ns,h=>by simp at h
 | t::ts,us,[],ns,h=>by simp at h
theorem nb{f:Tm→Int}: ∀{us:List Tm} {ns:List Int},(∀x∈ns,x=0)→ba f us ns=0
 | us,[],_=>rk
 | [],n::ns,_=>by simp[ba]
 | u::us,n::ns,h=>by
  rw[ba,nb (fun x hx=>h x (List.mem_cons_of_mem _ hx)),h n (by simp)];simp
theorem kQ{ctx ext:List Tm}{ws m:List Int}(h:GOk' ctx ws m)(he:ext.length=m.length)(hc:bd ctx ws=true):bd (ctx++ext) (ws++m)=true:=by
 have z2:=hc
 rw[iF,gO]at z2
 simp only[aN,decide_eq_true_eq,List.all_eq_true]at z2
 refine iE (by simp[h.len,he]) (fun k hk=>?_) ?_
 rw[jM h.len,nb h.m,Int.add_zero]
 exact z2.2.1 _ (List.mem_map.2 ⟨k,List.mem_range.2 hk,Z⟩)
 rw[jM h.len,nb h.m,Int.add_zero];exact z2.2.2
theorem m5{ctx:List Tm}{ws:List Int}(hcl:bd ctx ws=true): ∀{k:Nat} {s:Src} {m:List Int} {ext:List Tm},s.Ok→GOk' ctx ws m→ctx.length+m.length+k≤10→ext.length=m.length→(pS ctx ws k s m).fine∧(pS ctx ws k s m).okay (ctx++ext)
 | 0,s,m,ext,hs,h,hl,he=>⟨⟨h.close,rfl⟩,kQ h he hcl⟩
 | k + 1,s,m,ext,hs,h,hl,he=>by
  have hat:0≤(gl ctx s).1∧(gl ctx s).1<ctx.length:=bv hs (n:=ctx.length) (by have:=h.n0;omega)
  have hst:=h.step (by omega)
  have hat2:(gl ctx s).1.toNat<ctx.length:=by omega
  rw[pS]
  split
  rename_i hy
  have ht:=sA hy
  have hget:(ctx++ext).getD (gl ctx s).1.toNat default=ctx.getD (gl ctx s).1.toNat default:=by
   simp[List.getD_eq_getElem?_getD,List.getElem?_append_left hat2]
  have hok:(ctx.getD (gl ctx s).1.toNat default).ok=true:=by rw[am hat2];exact h.cs _ (List.getElem_mem _)
  have hti:(i4 (rB (gl ctx s).1) (ctx++ext)).2=true:=by
   unfold i4
   show(gm ((ctx++ext).getD (gl ctx s).1.toNat default)).2=true
   rw[hget,fB hok];exact ht
  have ih:=m5 hcl (k:=k) (s:=(ge ctx s).2) (m:=m++[0]) (ext:=ext++[(i4 (rB (gl ctx s).1) (ctx++ext)).1]) (lg hs) hst (by simp;omega) (by simp[he])
  rw[←dz]at ih
  refine⟨⟨?_,Z,ih.1⟩,?_,ih.2⟩
  unfold cQ
  rw[if_neg (show¬(3:Int)=1 by decide),if_neg (show¬(3:Int)=2 by decide),if_pos Z]
  simp[jg,Tm.zero];omega
  rw[hti,Bool.and_true]
  simp only[dY,jg,aN,decide_eq_true_eq,dS]
  omega
  have hsm:=m8 (lg (ctx:=ctx) hs)
  have ih:=m5 hcl (k:=k) (s:=(er (ge ctx s).2).2) (m:=m++[0]) (ext:=ext++[(er (ge ctx s).2).1]) (gq (lg hs)) hst (by simp;omega) (by simp[he])
  rw[←dz]at ih
  have hop:(bq (er (ge ctx s).2).1).ok=true:=by
   rw[←kx]
   have:=(eW (M:=1) (N:=1) hsm (Sm0.const (n:=1) (B:=1) (by decide) (by omega)) (m:= -1) (n:= -1) (by decide) (by decide) (by omega) (by omega)).1
   unfold df;rw[this]
  refine⟨⟨?_,Z,ih.1,hst.close,Z⟩,?_,ih.2,?_⟩
  unfold cQ
  rw[if_neg (show¬(2:Int)=1 by decide),if_pos Z]
  simp[hsm.ok]
  rw[dg,aN]
  exact⟨decide_eq_true (by simp only[dS];omega),hop⟩
  show bd (ctx++ext++[_]) _=true
  rw[dz]
  exact kQ hst (by simp[he]) hcl
structure Drn where
  sq:Sq
  pf:List Nd
abbrev bR(s:Src):(List Tm×List Int)×Src:=rF (s.pick 4).1.toNat (s.pick 4).2 [] []
abbrev p8(s:Src):Tm:=mT (bR s).1 ((bR s).2.pick 4).1
abbrev bM(s:Src):Sq:=⟨(bR s).1.1,p8 s⟩
abbrev gH(s:Src):List Int:=(bR s).1.2++[1]
abbrev fo(s:Src):Src:=((bR s).2.pick 4).2
abbrev l3(q:Sq)(ws:List Int)(s:Src):List Nd×Src:=lV (eC q).1 ws (s.pick 3).1.toNat (s.pick 3).2 [] [] []
abbrev jq(s:Src):List Nd:=(l3 (bM s) (gH s) (fo s)).1
theorem oE{s:Src}(h:s.Ok):(bR s).2.Ok∧DQOk 0 (bR s).1.1 (bR s).1.2∧(bR s).2.at_≤s.at_+40:=by
 have h0:=bv h (n:=4) (by omega)
 have h1:=bI (s:=s) (n:=4)
 have:=oD (k:=(s.pick 4).1.toNat) (h.pick (n:=4)) (ts:=[]) (ws:=[]) ⟨rfl,by simp only[List.length_nil];omega,by simp,by simp⟩
 exact⟨this.1,this.2.1,by have:=this.2.2;show(rF (s.pick 4).1.toNat (s.pick 4).2 [] []).2.at_≤_;omega⟩
theorem oF{s:Src}(h:s.Ok):ii (bM s)=true∧eC (bM s)=((bM s).facts++[bq (bM s).goal],true)∧bd ((bM s).facts++[bq (bM s).goal]) (gH s)=true∧(∀t∈(bM s).facts++[bq (bM s).goal],t.ok=true)∧(bM s).facts.length≤3∧Sm0 63 18 (bM s).goal:=by
 obtain⟨h1,h2,h3⟩:=oE h
 have hp:=bv h1 (n:=4) (by omega)
 obtain⟨g1,g2,g3⟩:=oG (c:=((bR s).2.pick 4).1) h2 hp.1 (by omega)
 have hle:=h2.le
 have hop:(df (p8 s)).2=true:=by
  have:=(eW (M:=1) (N:=1) g1 (Sm0.const (n:=1) (B:=1) (by decide) (by omega)) (m:= -1) (n:= -1) (by decide) (by decide) (by omega) (by omega)).1
  show(jj (mT (bR s).1 _) (-1) ⟨1,[]⟩ (-1)).2=true
  rw[this]
 have hop2:=kx (t:=p8 s) ▸ hop
 have hf: ∀t∈(bR s).1.1,t.ok=true:=fun t ht=>(h2.ts t ht).ok
 refine⟨?_,?_,?_,?_,by show(bR s).1.1.length≤3;omega,g1⟩
 show(gK (bR s).1.1 13&&(p8 s).ok)=true
 rw[show(p8 s).ok=true from g1.ok,Bool.and_true]
 unfold gK
 rw[List.all_eq_true.2 hf,Bool.true_and]
 exact decide_eq_true (by omega)
 unfold eC
 rw[if_pos hop,qg hop2]
 refine iE (by simp[h2.len]) (fun k hk=>?_) ?_
 rw[eL h2.len,ow hk]
 have:=g3 k hk
 show ba (cE k) (bR s).1.1 (bR s).1.2+1* -(cE k (mT ((bR s).1.1,(bR s).1.2) ((bR s).2.pick 4).1))=0
 rw[this];omega
 rw[eL h2.len]
 show ba Tm.c (bR s).1.1 (bR s).1.2+1*(-1*(mT ((bR s).1.1,(bR s).1.2) ((bR s).2.pick 4).1).c+0-1)<0
 rw[g2];omega
 intro t ht
 rcases List.mem_append.1 ht with ht|ht
 exact hf t ht
 simp only[List.mem_singleton]at ht;subst ht;exact hop2
theorem sE{s:Src}(h:s.Ok):l4 (bM s) (jq s)=true∧gD (jq s)=true∧(jq s).length≤5:=by
 obtain⟨h1,h2,h3,h4,h5,h6⟩:=oF h
 obtain⟨q1,q2,q3⟩:=oE h
 have hp3:=bv (s:=fo s) q1.pick (n:=3) (by omega)
 obtain⟨p,hp⟩: ∃p,p=jq s:=⟨_,rfl⟩
 have hG:GOk' ((bM s).facts++[bq (bM s).goal]) (gH s) []:=⟨h4,by show((bR s).1.2++[1]).length=((bR s).1.1++[_]).length;simp[q2.len],by simp,by simp only[dS,oP,List.length_nil];have h5':(bR s).1.1.length≤3:=h5;omega,fun w hw=>by
  rcases List.mem_append.1 hw with hw|hw
  · exact q2.ws w hw
  · simp only[List.mem_singleton]at hw;subst hw;decide,by simp⟩
 obtain⟨g1,g2⟩:=m5 h3 (k:=((fo s).pick 3).1.toNat) (s:=((fo s).pick 3).2) (m:=[]) (ext:=[]) q1.pick.pick hG (by simp only[dS,oP,List.length_nil];have h5':(bR s).1.1.length≤3:=h5;omega) rfl
 rw[List.append_nil]at g2
 have hflat:p=(pS ((bM s).facts++[bq (bM s).goal]) (gH s) ((fo s).pick 3).1.toNat ((fo s).pick 3).2 []).flat:=by
  rw[hp]
  show(lV (eC (bM s)).1 _ _ _ [] [] []).1=_
  rw[h2,lA];simp
 rw[←hp]
 have hsz:=jJ (ctx:=(bM s).facts++[bq (bM s).goal]) (ws:=gH s) (k:=((fo s).pick 3).1.toNat) (s:=((fo s).pick 3).2) (m:=[])
 generalize pS ((bM s).facts++[bq (bM s).goal]) (gH s) ((fo s).pick 3).1.toNat ((fo s).pick 3).2 []=t at g1 g2 hflat hsz
 have ho2:(bq (bM s).goal).ok=true:=h4 _ (by simp)
 have hc:bT (bM s)=((bM s).facts++[bq (bM s).goal],true):=by unfold bT;rw[h1,ho2];rfl
 have hat:t.At p 0:=e9 g1 fun j _=>by rw[Nat.zero_add,hflat]
 have hs:t.size=p.length:=by rw[hflat,bZ]
 have hpos:=bk (t:=t)
 have hB:gD p=true:=by
  unfold gD
  rw[decide_eq_true (show(1:Int)≤p.length by omega),decide_eq_true (show(p.length:Int)≤60 by omega),List.all_eq_true.2 (by rw[hflat];exact e8 g1),hat.endP,decide_eq_true (by omega)];rfl
 refine⟨?_,hB,by omega⟩
 rw[←qh (by rw[hc]) (by rw[fw];exact hB) hat hs]
 refine decide_eq_true ?_
 show(ew t 0 (bT (bM s)).1 ⟨[],-1⟩).flaw<0
 rw[hc,dr g2]
 decide
theorem qi{s:Src}(hs:s.Ok)(ha:s.at_≤999999900):MQ h1 h2 37 [.c (.pt 0 0 0)] [(0,be s)] (cD (cP (er s).1) [(0,be (er s).2)]):=by
 refine MC.shift 500 Z (MC.keep [500] (bs:=[be (er s).2]) Z Z (jH 29 [500] h1 h2 Tryz.func37 Z fun O hF=>?_))
 refine ie ?_
 obtain⟨R,hR⟩: ∃R,R=er s:=⟨_,rfl⟩
 rw[←hR]
 have hp0:=bv hs (n:=4) (by omega)
 have hat0:=bI (s:=s) (n:=4)
 refine af (jl Z (au ?_))
 refine aZ (aI (HS.lit O Z Z Z) Z (au ?_))
 refine js Z (jn (ah (af (js Z (aO O [500] (bin:=[be s]) Z Z Z Z (gJ (s:=s) (n:=4) h1 h2 hs (by omega) (by omega) (by omega)) Z Z Z Z Z Z (B0:=10000) Z Z (au ?_))))))
 refine js Z (jf [4,3,7,2,0] Z (jn (ak (av (X:=Nat×Src×List Int) (fun x=>⟨[(0,.c (.pt 500 0 0)),(2,.c (.pt 2 0 0)),(3,.c (.rs 900 0 x.2.2.length)),(4,eI (x.1:Nat))],[(2,.box [.d (.int .i64 0),.d .nils]),(500,be x.2.1),(900,eA x.2.2)]⟩) (fun x=>x.2.1.Ok∧er s=tl (mU x.1 x.2.1 x.2.2)∧x.2.2.length+x.1≤3∧x.2.1.at_+2*x.1≤s.at_+8) (fun x=>x.1) ((s.pick 4).1.toNat,(s.pick 4).2,[]) (((ap [2,500,7] (e':=[(0,_),(2,_),(3,_),(4,_)]) Z Z ⟨Z,Z,Z,Z,aq⟩ Z).trans (ax 7 900 Z Z)).trans (Ent.to ⟨Z,Z,Z,by rw[Int.toNat_of_nonneg hp0.1];rfl,aq⟩ Z)) ?_ (fun x hi=>?_)))))
 exact⟨hs.pick,Z,by simp only[List.length_nil];omega,by simp only;omega⟩
 refine ah (af (ac Z (jn (ar Z (fun z11=>?_) (fun z11=>?_)))))
 refine al (ah (ak (ag (ac Z ?_))))
 have hp:=bv hi.1 (n:=7) (by omega)
 have hat:=bI (s:=x.2.1) (n:=7)
 have hk:=cN z11
 refine aO O [500] (bin:=[be x.2.1]) Z Z Z Z (gJ (s:=x.2.1) (n:=7) h1 h2 hi.1 (by omega) (by omega) (by omega)) Z Z Z Z Z Z (B0:=17000) Z Z (au ?_)
 refine aj (bf O Z Z (by omega) (by omega)) Z (jf [17,14,11,10,0,2,3,4] Z (aI (HS.lit O Z Z Z) Z (au ?_)))
 refine jf [18,14,11,10,0,2,3,4] Z (aI (bX (zs:=(x.2.2++[(x.2.1.pick 7).1-3]).map fun n=>[.int .i64 n]) (n:=(x.2.2++[(x.2.1.pick 7).1-3]).length) O Z Z Z Z Z Z Z Z Z Z Z Z Z Z Z Z (.row Z (cj _).symm) Z Z (by decide) Z (by simp;omega) (by simp;omega) (by simp) (by simp)) Z (au ?_))
 refine au ?_
 refine js Z (jf [3,11,10,0,2,4] Z (jn (ag (js Z ?_))))
 first|refine ji Z ?_|refine cf Z Z ?_
 refine js Z (jf [4,3,11,10,0,2] Z (jn ?_))
 obtain⟨k,hk1⟩: ∃k,x.1=k+1:=⟨x.1-1,by omega⟩
 refine⟨(k,(x.2.1.pick 7).2,x.2.2++[(x.2.1.pick 7).1-3]),((ap [2,500,19] (e':=[(0,_),(2,_),(3,_),(4,_)]) Z Z ⟨Z,Z,Z,Z,aq⟩ Z).trans (ax 19 900 Z Z)).trans (Ent.to ⟨Z,Z,Z,?_,aq⟩ Z),⟨hi.1.pick,by rw[hi.2.1,hk1,mU],by simp only[dS,oP];omega,by simp only;omega⟩,by simp only;omega⟩
 exact congrArg (fun z=>some (eI z)) (by simp only;omega)
 refine bg (af ?_)
 have hk:=de z11
 obtain⟨k,s1,xs1⟩:=x
 simp only at hi hk
 obtain rfl:k=0:=by omega
 obtain⟨hi1,hi2,hi3,hi4⟩:=hi
 rw[show er s=tl (xs1,s1)from hi2]at hR
 have hp1:=bv hi1 (n:=21) (by omega)
 have hat1:=bI (s:=s1) (n:=21)
 refine aA (Ent.freeze 900 (e':=[(3,_),(0,_),(2,_)]) Z (.cons Z (.c (.row Z (cj _).symm)) (fe [0,2] Z)) (bu Z (bu Z (.skip .nil)))) ?_
 refine js Z (aO O [500] (bin:=[be s1]) Z Z Z Z (gJ (s:=s1) (n:=21) h1 h2 hi1 (by omega) (by omega) (by omega)) Z Z Z Z Z Z (B0:=23000) Z Z (au ?_))
 refine aj (bf O Z Z (by omega) (by omega)) Z (js Z (jf [24,23,3,0,2] Z (ab O Z Z Z Z (p9 (c:=(s1.pick 21).1-10) (xs:=xs1) h1 h2) (aa Z) Z Z Z Z (B0:=26000) Z Z (aW Z (jf [27,26,3,0,2] Z (jl Z (au ?_)))))))
 refine jo Z (au ?_)
 refine js Z (jf [5,3,0,2] Z (aZ (js Z (jo Z (au ?_)))))
 refine jr ?_
 rw[show R=((k5 ((s1.pick 21).1-10) xs1).1,(s1.pick 21).2)from hR]
 refine⟨.inl Z,_,cn,_,Z,Z,Z⟩
variable{xs:List Int}
theorem vC(hx: ∀n∈xs,0≤n∧n≤255):MQ h1 h2 13 [.c (.d (bys xs))] [] (Plain (cP (er ⟨xs,0,0⟩).1)):=by
 refine MC.data (jB 8 h1 h2 Tryz.func13 Z fun O hF=>?_)
 obtain⟨R,hR⟩: ∃R,R=er ⟨xs,0,0⟩:=⟨_,rfl⟩
 rw[←hR]
 refine af (jl Z (au ?_))
 refine aZ (js Z (jf [4,2] Z (aO O [] (bin:=[]) Z Z Z Z (s8 (xs:=xs) h1 h2) Z Z Z Z Z Z (B0:=6000) Z Z (au ?_))))
 refine js Z (jf [3,2] Z (aZ (js Z (jf [6,2] Z (aO O [6000] (bin:=[be ⟨xs,0,0⟩]) Z Z Z Z (qi (s:=⟨xs,0,0⟩) h1 h2 ⟨hx⟩ (by show(0:Nat)≤999999900;decide)) Z Z Z Z Z Z (B0:=8000) Z Z (au ?_))))))
 rw[←hR]
 refine jf [7,2] Z (jo Z (au ?_))
 refine jr ?_
 refine aC Z ?_
 exact .v (.agg (aK Z))
set_option maxHeartbeats 8000000
abbrev vZ(ns:List Nd):B:=.row false 5 (ns.map Nd.cells)
theorem oB{xs:List Int}:Scal (xs.map fun n=>[D.int .i64 n]):=by
 intro r hr d hd
 obtain⟨n,_,rfl⟩:=List.mem_map.1 hr
 rw[List.mem_singleton.1 hd];rfl
theorem qy{xs:List Int}: ∀e∈xs.map (fun n=>[D.int .i64 n]),e.length=1:=fun e he=>by obtain⟨n,_,rfl⟩:=List.mem_map.1 he;rfl
theorem vw{a b:Tm}{m n:Int}(ha:Small a)(hb:Small b)(hm:dT m=true)(hn:dT n=true):MQ h1 h2 64 [.c (.pt 0 0 0),eI m,ptr b.cells,eI n] [(0,.box (a.cells.map .d))] (cD (fi (jj a m b n)) [(0,.box (a.cells.map .d))]):=by
 refine MC.shift 500 Z (rv (cs:=a.cells) (jH 48 [500] h1 h2 Tryz.func64 Z fun O hF=>?_))
 refine af (jl Z (js Z (aZ (aI (HS.lit O Z Z Z) Z (js Z (jn (ah (af (js Z (jn (ak (av (X:=Nat) (fun i=>⟨[(0,.c (.pt 500 0 0)),(1,eI m),(2,ptr b.cells),(3,eI n),(8,.c (.pt 8 0 0)),(10,.c (.rs 900 0 i)),(11,eI i)],[(8,.box [.d (.int .i64 0),.d .nils]),(500,.box (a.cells.map .d)),(900,eA ((dB a m b n).take i))]⟩) (fun i=>i≤10) (fun i=>10-i) 0 (((ap [8,500,12] (e':=[(0,_),(1,_),(2,_),(3,_),(8,_),(10,_),(11,_)]) Z Z ⟨Z,Z,Z,Z,Z,Z,Z,aq⟩ Z).trans (ax 12 900 Z Z)).trans (Ent.to ⟨Z,Z,Z,Z,Z,Z,Z,aq⟩ Z)) ?_ (fun i hi=>?_)))))))))))))
 exact fg _
 refine ah (af (ac Z (jn (ar Z (fun z14=>?_) (fun z14=>?_)))))
 try simp only[bL]at z14
 refine al (ah (ak (ag ?_)))
 have q1:=cG hm (ha.get i)
 have q2:=cG hn (hb.get i)
 refine aT Z (dy O Z Z Z Z (rK (t:=a) (i:=i) h1 h2 (by omega)) (.cons (.c (.pb (cs:=a.cells) Z (aK Z))) (.cons (.c .d) .nil)) Z Z Z Z Z (B0:=22000) Z ?_)
 first|refine ji Z ?_|refine cf Z Z ?_
 refine aW Z (jf [25,24,23,22,17,14,13,0,1,2,3,8,10,11] Z (bE Z (rK (t:=b) (i:=i) h1 h2 (by omega)) 27000 Z ?_))
 first|refine ji Z ?_|refine cf Z Z ?_
 first|refine ji Z ?_|refine cf Z Z ?_
 refine jf [28,17,14,13,0,1,2,3,8,10,11] Z (aI (HS.lit O Z Z Z) Z (jf [29,17,14,13,0,1,2,3,8,10,11] Z (aI (bX (zs:=((dB a m b n).take (i+1)).map fun n=>[.int .i64 n]) (n:=i+1) O Z Z Z Z Z Z Z Z Z Z Z Z Z Z Z Z (.row Z (by simp[aY];omega)) Z Z (by decide) Z (by simp[aY];omega) (by simp[aY];omega) (by rw[kH (by omega),List.map_append];rfl) (by simp[aY];omega)) Z (js Z (jf [10,14,13,0,1,2,3,8,11] Z (jn (ag (js Z ?_))))))))
 first|refine ji Z ?_|refine cf Z Z ?_
 refine js Z (jf [11,10,14,13,0,1,2,3,8] Z (jn ?_))
 refine⟨i+1,((ap [8,500,30] (e':=[(0,_),(1,_),(2,_),(3,_),(8,_),(10,_),(11,_)]) Z Z ⟨Z,Z,Z,Z,Z,Z,Z,aq⟩ Z).trans (ax 30 900 Z Z)),by omega,by omega⟩
 try simp only[bL]at z14
 refine bg (ah ?_)
 obtain rfl:i=10:=by omega
 rw[List.take_of_length_le (by rw[aY];decide)]
 have q1:=cG hm ha.c
 have q2:=cG hn hb.c
 refine lK (Ent.freeze 900 (e':=[(10,_),(8,_),(0,_),(1,_),(2,_),(3,_)]) Z (.cons Z (.c (.row Z (by simp[aY]))) (fe [8,0,1,2,3] Z)) (bu Z (bu Z (.skip .nil)))) ?_
 refine lU [_,_,_,_,_,_,_,_,_,_,_,_,_,_,_,_,_,_,_] [bc,bc,ay [1],ay [1,2],ay [1,2,3],ay (rg 0 5),bc,bc,ay [7],ay [7,8],ay [7,8,9],ay (rg 6 5),ay (rg 0 12),bc,pe (rg 0 14) 0,pn (rg 0 15) 1 1,pn (rg 0 15) 1 1,pe (rg 0 17) 1,pn (rg 0 18) 2 2] [14,17] [_,_,_] (eR Z (kc Z (ai (vF Z) (eR Z (kc Z (ai (vF Z) (ai (vF Z) (kc Z (ai (bA O (B0:=46000) Z Z Z Z (p9 (c:=m*a.c+n*b.c) (xs:=dB a m b n) h1 h2) (aa Z) Z Z Z Z Z) (kc Z (kc Z (ai (eS Z Z Z) (kc Z trivial))))))))))))) ?_
 refine jw [9,10,8,0,1,2,3] Z (ie ?_)
 refine lX ?_
 refine aC Z ?_
 refine⟨?_,Z⟩
 exact .tup (.cons (.agg (aK Z)) (.cons (.c .d) .nil))
theorem vz{s:Src}{q:Sq}{ctx:List Tm}{ws:List Int}(hs:s.Ok)(ha:s.at_≤999999800)(hc:eC q=(ctx,true))(hg:Small q.goal)(hn:q.facts.length≤1000)(hG:GOk' ctx ws []):MQ h1 h2 65 [.c (.pt 0 0 0),kj q,bD ws] [(0,be s)] (cD (bN (lV ctx ws (s.pick 3).1.toNat (s.pick 3).2 [] [] []).1) [(0,be (lV ctx ws (s.pick 3).1.toNat (s.pick 3).2 [] [] []).2)]):=by
 refine MC.shift 500 Z (MC.keep [500] (bs:=[be (lV ctx ws (s.pick 3).1.toNat (s.pick 3).2 [] [] []).2]) Z Z (jH 84 [500] h1 h2 Tryz.func65 Z fun O hF=>?_))
 refine ie ?_
 obtain⟨R,hR⟩: ∃R,R=lV ctx ws (s.pick 3).1.toNat (s.pick 3).2 [] [] []:=⟨_,rfl⟩
 rw[←hR]
 have hp0:=bv hs (n:=3) (by omega)
 have hat0:=bI (s:=s) (n:=3)
 have hl10:=hG.n4
 have hwl:=hG.len
 have hn0:=hG.n0
 simp only[List.length_nil,Nat.add_zero]at hl10
 refine af (jx Z (au ?_))
 refine aA (Ent.freeze 4 (e':=[(4,_),(0,_),(1,_),(2,_)]) Z (.cons Z (.c (.box (cs:=q.cells) Z (aK Z))) (fe [0,1,2] Z)) (.skip (bu Z .nil))) ?_
 refine au ?_
 refine js Z (aZ (ab O Z Z Z Z ((w8 (s:=q) h1 h2 hg hn).plain (u:=.tup [cO ctx,eB true]) (by rw[hc])) (aa Z) Z Z Z Z (B0:=20000) Z Z (aT Z (js Z (jf [7,6,0,1,2] Z (aZ (aI (aP O Z Z Z Z Z Z Z Z Z Z Z) Z (au ?_))))))))
 refine au ?_
 refine js Z (aZ (aI (aP O Z Z Z Z Z Z Z Z Z Z Z) Z (au ?_)))
 refine au ?_
 refine js Z (aZ (aI (HS.lit O Z Z Z) Z (au ?_)))
 refine js Z (jn (ah (af (js Z (aO O [500] (bin:=[be s]) Z Z Z Z (gJ (s:=s) (n:=3) h1 h2 hs (by omega) (by omega) (by omega)) Z Z Z Z Z Z (B0:=27000) Z Z (au ?_))))))
 refine js Z (jf [12,11,24,10,23,9,22,7,6,0,1,2] Z (jn (ak (av (X:=Nat×Src×List Nd×List Nd×List Int) (fun x=>⟨[(0,.c (.pt 500 0 0)),(2,bD ws),(7,cO ctx),(9,.c (.rs 900 0 x.2.2.1.length)),(10,.c (.rs 901 0 x.2.2.2.1.length)),(11,.c (.rs 902 0 x.2.2.2.2.length)),(12,eI (x.1:Nat))],[(500,be x.2.1),(900,vZ x.2.2.1),(901,vZ x.2.2.2.1),(902,eA x.2.2.2.2)]⟩) (fun x=>x.2.1.Ok∧lV ctx ws (s.pick 3).1.toNat (s.pick 3).2 [] [] []=lV ctx ws x.1 x.2.1 x.2.2.1 x.2.2.2.1 x.2.2.2.2∧x.2.2.1.length+x.1≤2∧x.2.2.2.1.length+x.1≤2∧x.2.2.2.2.length+x.1≤2∧x.2.1.at_+20*x.1≤s.at_+50) (fun x=>x.1) ((s.pick 3).1.toNat,(s.pick 3).2,[],[],[]) (((((ap [500,22,23,24] (e':=[(0,_),(2,_),(7,_),(9,_),(10,_),(11,_),(12,_)]) Z Z ⟨Z,Z,Z,Z,Z,Z,Z,aq⟩ Z).trans (ax 22 900 Z Z)).trans (ax 23 901 Z Z)).trans (ax 24 902 Z Z)).trans (Ent.to ⟨Z,Z,Z,Z,Z,Z,by rw[Int.toNat_of_nonneg hp0.1];rfl,aq⟩ Z)) ?_ (fun x hi=>?_)))))
 exact⟨hs.pick,Z,by simp only[List.length_nil];omega,by simp only[List.length_nil];omega,by simp only[List.length_nil];omega,by simp only;omega⟩
 refine ah (af (ac Z (jn (ar Z (fun z28=>?_) (fun z28=>?_)))))
 refine al (ah (ak (af ?_)))
 have hk:=cN z28
 obtain⟨k,hk1⟩: ∃k,x.1=k+1:=⟨x.1-1,by omega⟩
 have hp:0≤(gl ctx x.2.1).1∧(gl ctx x.2.1).1<ctx.length:=bv hi.1 (n:=ctx.length) (by omega)
 have hat:=bI (s:=x.2.1) (n:=ctx.length)
 have ht2:=t3 (ctx:=ctx) (s:=x.2.1)
 have hto:=lg (ctx:=ctx) hi.1
 have hda:=m9 hto
 obtain⟨hi3,hi4,hi5,hi6⟩:=hi.2.2
 have hok:(ctx.getD (gl ctx x.2.1).1.toNat default).ok=true:=by rw[am (by omega)];exact hG.cs _ (List.getElem_mem _)
 refine ac Z ?_
 first|refine eh Z ?_|refine js Z ?_|refine cf Z Z ?_
 refine jf [33,31,28,27,0,2,7,9,10,11,12] Z (aO O [500] (bin:=[be x.2.1]) Z Z Z Z (gJ (s:=x.2.1) (n:=ctx.length) h1 h2 hi.1 (by omega) (by omega) (by omega)) Z Z Z Z Z Z (B0:=35000) Z Z (au ?_))
 refine js Z (jf [13,28,27,0,2,7,9,10,11,12] Z (aZ (ac Z (aj (dO O Z Z Z Z Z Z Z Z hp.1 (gM hp.1 hp.2)) Z (jf [38,13,28,27,0,2,7,9,10,11,12] Z (ab O Z Z Z Z (w3 (t:=ctx.getD (gl ctx x.2.1).1.toNat default) h1 h2 (dL hok)) (aa Z) Z Z Z Z (B0:=40000) Z Z (aW Z (jf [41,40,13,28,27,0,2,7,9,10,11,12] Z (jl Z (au ?_))))))))))
 refine jo Z (au ?_)
 refine js Z (jf [15,13,28,27,0,2,7,9,10,11,12] Z (jn (ah (ah (f2 ⟨[(0,.c (.pt 500 0 0)),(2,bD ws),(7,cO ctx),(9,.c (.rs 900 0 x.2.2.1.length)),(10,.c (.rs 901 0 x.2.2.2.1.length)),(11,.c (.rs 902 0 x.2.2.2.2.length)),(12,eI (x.1:Nat)),(13,eI (gl ctx x.2.1).1),(46,eB (ge ctx x.2.1).1)],[(500,be (ge ctx x.2.1).2),(900,vZ x.2.2.1),(901,vZ x.2.2.2.1),(902,eA x.2.2.2.2)]⟩ ?_ ?_)))))
 refine ag ?_
 cases hb42:(cg (ctx.getD (gl ctx x.2.1).1.toNat default)).2 with
 | true=>
  refine ac Z (jf [43,13,28,27,0,2,7,9,10,11,12] Z (b9 Z (js Z (b9 Z (aO O [500] (bin:=[be (gl ctx x.2.1).2]) Z Z Z Z (vU (s:=(gl ctx x.2.1).2) (n:=2) h1 h2 hi.1.pick (by show(x.2.1.pick ctx.length).2.at_≤_;omega) (by omega) (by omega)) Z Z Z Z Z Z (B0:=46000) Z Z (au ?_))))))
  refine aj (dx O Z Z Z Z Z) Z (jf [46,13,28,27,0,2,7,9,10,11,12] Z (jn ?_))
  have e:ge ctx x.2.1=(decide (((gl ctx x.2.1).2.pick 2).1=0),((gl ctx x.2.1).2.pick 2).2):=if_pos hb42
  rw[e]
  exact⟨Z,(ap [500,900,901,902] (e':=[(0,_),(2,_),(7,_),(9,_),(10,_),(11,_),(12,_),(13,_),(46,_)]) Z Z ⟨Z,Z,Z,Z,Z,Z,Z,Z,Z,aq⟩ Z).trans (Ent.to ⟨Z,Z,Z,Z,Z,Z,Z,Z,Z,aq⟩ Z)⟩
 | false=>
  refine ac Z (jf [43,13,28,27,0,2,7,9,10,11,12] Z (i5 Z (i5 Z (aj (aU O Z Z Z Z Z) Z (jf [46,13,28,27,0,2,7,9,10,11,12] Z (jn ?_))))))
  have e:ge ctx x.2.1=(false,(gl ctx x.2.1).2):=if_neg (by rw[hb42];decide)
  rw[e]
  exact⟨Z,(ap [500,900,901,902] (e':=[(0,_),(2,_),(7,_),(9,_),(10,_),(11,_),(12,_),(13,_),(46,_)]) Z Z ⟨Z,Z,Z,Z,Z,Z,Z,Z,Z,aq⟩ Z).trans (Ent.to ⟨Z,Z,Z,Z,Z,Z,Z,Z,Z,aq⟩ Z)⟩
 refine ar Z (fun z46=>?_) (fun z46=>?_)
 refine af (aW Z (jf [49,47,0,2,7,9,10,11,12,13,46] Z (aI (aP O Z Z Z Z Z Z Z Z Z Z Z) Z (au ?_))))
 refine aA (Ent.rowLe 50 Z (.cons (ga (ga (ga (.cons (.nil (sz:=1)) (.cons (.nil (sz:=1)) .nil))))) .nil)) (au ?_)
 refine au ?_
 refine jf [50,47,0,2,7,9,10,11,12,13,46] Z (aI (cw (own:=false) (xs:=x.2.2.1.map Nd.cells) (ys:=[Nd.cells (rB (gl ctx x.2.1).1)]) (zs:=(x.2.2.1++[rB (gl ctx x.2.1).1]).map Nd.cells) (n:=(x.2.2.1++[rB (gl ctx x.2.1).1]).length) O Z (.row Z (cj _).symm) (.whole Z Z (.inr ⟨Z,Z⟩)) (by simp) Z (by simp;omega) (by simp;omega) (by simp) (by simp)) Z (au ?_))
 refine au ?_
 refine js Z (jf [9,0,2,7,10,11,12,13,46] Z (aZ (js Z (aI (HS.lit O Z Z Z) Z (au ?_)))))
 refine aI (bX (zs:=(x.2.2.2.2++[0]).map fun n=>[.int .i64 n]) (n:=(x.2.2.2.2++[0]).length) O Z Z Z Z Z Z Z Z Z Z Z Z Z Z Z Z (.row Z (cj _).symm) Z Z (by decide) Z (by simp;omega) (by simp;omega) (by simp) (by simp)) Z (au ?_)
 refine au ?_
 refine js Z (jf [11,9,0,2,7,10,12,13,46] Z (jn (bg (ag (js Z ?_)))))
 first|refine ji Z ?_|refine cf Z Z ?_
 refine js Z (jf [12,11,9,0,2,7,10,13,46] Z (jn ?_))
 refine⟨(k,(ge ctx x.2.1).2,x.2.2.1++[rB (gl ctx x.2.1).1],x.2.2.2.1,(x.2.2.2.2++[0])),(((ap [500,51,901,54] (e':=[(0,_),(2,_),(7,_),(9,_),(10,_),(11,_),(12,_)]) Z Z ⟨Z,Z,Z,Z,Z,Z,Z,aq⟩ Z).trans (ax 51 900 Z Z)).trans (ax 54 902 Z Z)).trans (Ent.to ⟨Z,Z,Z,Z,Z,Z,?_,aq⟩ Z),⟨hto,by rw[hi.2.1,hk1,lV,if_pos z46],by simp only[dS,oP,fh,List.length_nil];omega,by simp only[dS,oP,fh,List.length_nil];omega,by simp only[dS,oP];omega,by simp only;omega⟩,by simp only;omega⟩
 exact congrArg (fun z=>some (eI z)) (by simp only;omega)
 refine al (af (ac Z (aO O [500] (bin:=[be (ge ctx x.2.1).2]) Z Z Z Z (qi (s:=(ge ctx x.2.1).2) h1 h2 hto (by omega)) Z Z Z Z Z Z (B0:=58000) Z Z (au ?_))))
 refine js Z (jf [58,55,0,2,7,9,10,11,12,13,46] Z (aI (aP O Z Z Z Z Z Z Z Z Z Z Z) Z (au ?_)))
 refine aA (Ent.rowLe 59 Z (.cons (ga (ga (ga (ga (.cons (.nil (sz:=1)) .nil))))) .nil)) (au ?_)
 refine au ?_
 refine jf [59,55,0,2,7,9,10,11,12,13,46] Z (aI (cw (own:=false) (xs:=x.2.2.1.map Nd.cells) (ys:=[Nd.cells (sL (er (ge ctx x.2.1).2).1)]) (zs:=(x.2.2.1++[sL (er (ge ctx x.2.1).2).1]).map Nd.cells) (n:=(x.2.2.1++[sL (er (ge ctx x.2.1).2).1]).length) O Z (.row Z (cj _).symm) (.whole Z Z (.inr ⟨Z,Z⟩)) (by simp) Z (by simp;omega) (by simp;omega) (by simp) (by simp)) Z (au ?_))
 refine au ?_
 refine js Z (jf [9,0,2,7,10,11,12,13,46] Z (aZ (js Z (aI (HS.lit O Z Z Z) Z (au ?_)))))
 refine aI (bX (zs:=(x.2.2.2.2++[0]).map fun n=>[.int .i64 n]) (n:=(x.2.2.2.2++[0]).length) O Z Z Z Z Z Z Z Z Z Z Z Z Z Z Z Z (.row Z (cj _).symm) Z Z (by decide) Z (by simp;omega) (by simp;omega) (by simp) (by simp)) Z (au ?_)
 refine au ?_
 refine js Z (jf [11,9,0,2,7,10,12,13,46] Z (aZ (js Z (iG O (B0:=66000) Z Z Z Z (tv (xs:=ws) h1 h2) (aa Z) Z Z Z Z Z Z (au ?_)))))
 refine js Z (jf [66,65,11,9,0,2,7,10,12,13,46] Z (aI (cw (own:=true) (xs:=ws.map (fun n:Int=>[D.int .i64 n])) (ys:=((x.2.2.2.2++[0])).map (fun n:Int=>[D.int .i64 n])) (zs:=(ws++(x.2.2.2.2++[0])).map (fun n:Int=>[D.int .i64 n])) (n:=(ws++(x.2.2.2.2++[0])).length) O Z (.row Z (cj _).symm) (.whole Z (cj _).symm (.inl oB)) qy Z (by simp;omega) (by simp;omega) (by simp) (by simp)) Z (au ?_)))
 refine au ?_
 refine js Z (jf [16,11,9,0,2,7,10,12,13,46] Z (jn (ag (aA (Ent.freeze 67 (e':=[(0,_),(2,_),(7,_),(9,_),(10,_),(11,_),(12,_),(16,_)]) Z (.cons Z (.keep Z) (.cons Z (.keep Z) (.cons Z (.keep Z) (.cons Z (.keep Z) (.cons Z (.keep Z) (.cons Z (.keep Z) (.cons Z (.keep Z) (.cons Z (.c (.row Z (cj _).symm)) .nil)))))))) (eT Z (eT Z (eT Z (.skip (eT Z (bu Z .nil))))))) ?_))))
 refine ac Z (jf [69,0,2,7,9,10,11,12] Z (aI (aP O Z Z Z Z Z Z Z Z Z Z Z) Z (au ?_)))
 refine aA (Ent.rowLe 70 Z (.cons (ga (ga (ga (.cons (.nil (sz:=1)) (.cons .refl .nil))))) .nil)) (au ?_)
 refine au ?_
 refine js Z (jf [71,70,0,2,7,9,10,11,12] Z (aI (cw (own:=false) (xs:=[Nd.cells (iI (ws++(x.2.2.2.2++[0])))]) (ys:=x.2.2.2.1.map Nd.cells) (zs:=([iI (ws++(x.2.2.2.2++[0]))]++x.2.2.2.1).map Nd.cells) (n:=([iI (ws++(x.2.2.2.2++[0]))]++x.2.2.2.1).length) O Z (.row Z Z) (.whole Z (cj _).symm (.inr ⟨Z,Z⟩)) (by simp) Z (by simp;omega) (by simp;omega) (by simp) (by simp)) Z (au ?_)))
 refine au ?_
 refine js Z (jf [10,0,2,7,9,11,12] Z (jn (ag (js Z ?_))))
 first|refine ji Z ?_|refine cf Z Z ?_
 refine js Z (jf [12,10,0,2,7,9,11] Z (jn ?_))
 refine⟨(k,(er (ge ctx x.2.1).2).2,x.2.2.1++[sL (er (ge ctx x.2.1).2).1],[iI (ws++(x.2.2.2.2++[0]))]++x.2.2.2.1,(x.2.2.2.2++[0])),((((ap [500,60,72,63] (e':=[(0,_),(2,_),(7,_),(9,_),(10,_),(11,_),(12,_)]) Z Z ⟨Z,Z,Z,Z,Z,Z,Z,aq⟩ Z).trans (ax 60 900 Z Z)).trans (ax 72 901 Z Z)).trans (ax 63 902 Z Z)).trans (Ent.to ⟨Z,Z,Z,Z,Z,Z,?_,aq⟩ Z),⟨gq hto,by rw[hi.2.1,hk1,lV,if_neg (by rw[z46];decide)],by simp only[dS,oP,fh,List.length_nil];omega,by simp only[dS,oP,fh,List.length_nil];omega,by simp only[dS,oP];omega,by simp only;omega⟩,by simp only;omega⟩
 exact congrArg (fun z=>some (eI z)) (by simp only;omega)
 refine bg (af ?_)
 have hk:=de z28
 obtain⟨k,s1,f1,t1,m1⟩:=x
 simp only at hi hk
 obtain rfl:k=0:=by omega
 obtain⟨hi1,hi2,hi3,hi4,hi5,hi6⟩:=hi
 rw[hi2]at hR
 have hm10:m1.length≤2:=by omega
 refine ac Z (iG O (B0:=76000) Z Z Z Z (tv (xs:=ws) h1 h2) (aa Z) Z Z Z Z Z Z (au ?_))
 refine js Z (jf [76,75,73,28,27,0,2,7,9,10,11,12] Z (aI (cw (own:=true) (xs:=ws.map (fun n:Int=>[D.int .i64 n])) (ys:=(m1).map (fun n:Int=>[D.int .i64 n])) (zs:=(ws++m1).map (fun n:Int=>[D.int .i64 n])) (n:=(ws++m1).length) O Z (.row Z (cj _).symm) (.whole Z (cj _).symm (.inl oB)) qy Z (by simp;omega) (by simp;omega) (by simp) (by simp)) Z (au ?_)))
 refine au ?_
 refine aA (Ent.freeze 77 (e':=[(0,_),(2,_),(7,_),(9,_),(10,_),(11,_),(12,_),(73,_),(77,_)]) Z (.cons Z (.keep Z) (.cons Z (.keep Z) (.cons Z (.keep Z) (.cons Z (.keep Z) (.cons Z (.keep Z) (.cons Z (.keep Z) (.cons Z (.keep Z) (.cons Z (.keep Z) (.cons Z (.c (.row Z (cj _).symm)) .nil))))))))) (.skip (bu Z (eT Z (eT Z (eT Z .nil)))))) ?_
 refine js Z (jf [78,0,2,7,9,10,11,12,73] Z (aI (aP O Z Z Z Z Z Z Z Z Z Z Z) Z (au ?_)))
 refine aA (Ent.rowLe 79 Z (.cons (ga (ga (ga (.cons (.nil (sz:=1)) (.cons .refl .nil))))) .nil)) (au ?_)
 refine au ?_
 refine jf [79,0,2,7,9,10,11,12,73] Z (aI (cw (own:=false) (xs:=f1.map Nd.cells) (ys:=[Nd.cells (iI (ws++m1))]) (zs:=(f1++[iI (ws++m1)]).map Nd.cells) (n:=(f1++[iI (ws++m1)]).length) O Z (.row Z (cj _).symm) (.whole Z Z (.inr ⟨Z,Z⟩)) (by simp) Z (by simp;omega) (by simp;omega) (by simp) (by simp)) Z (au ?_))
 refine au ?_
 refine js Z (jf [17,0,2,7,9,10,11,12] Z (aZ (ac Z (jf [82,81,0,2,7,9,10,11,12] Z (aI (cw (own:=false) (xs:=(f1++[iI (ws++m1)]).map Nd.cells) (ys:=t1.map Nd.cells) (zs:=(f1++[iI (ws++m1)]++t1).map Nd.cells) (n:=(f1++[iI (ws++m1)]++t1).length) O Z (.row Z (cj _).symm) (.whole Z (cj _).symm (.inr ⟨Z,Z⟩)) (by simp) Z (by simp;omega) (by simp;omega) (by simp) (by simp)) Z (au ?_))))))
 refine au ?_
 refine js Z (jf [6,0,2,7,9,10,11,12] Z (jr ?_))
 rw[show R=(f1++[iI (ws++m1)]++t1,s1)from hR]
 refine⟨.inl Z,_,Ent.freeze 83 (e':=[(6,_)]) Z (.cons Z (.c (.row Z (cj _).symm)) .nil) (eT Z (.skip (bu Z (eT Z (eT Z .nil))))),_,Z,Z,Z⟩
set_option maxHeartbeats 8000000
theorem Sm0.small{B C:Nat}{t:Tm}(h:Sm0 B C t):Small t:=dL h.ok
theorem vA{s:Src}(hs:s.Ok)(ha:s.at_≤999999600):MQ h1 h2 28 [.c (.pt 0 0 0)] [(0,be s)] (cD (.tup [kj (bM s),bN (jq s)]) [(0,be (l3 (bM s) (gH s) (fo s)).2)]):=by
 refine MC.shift 500 Z (MC.keep [500] (bs:=[be (l3 (bM s) (gH s) (fo s)).2]) Z Z (jH 72 [500] h1 h2 Tryz.func28 Z fun O hF=>?_))
 refine ie ?_
 obtain⟨R,hR⟩: ∃R,R=((bM s,jq s),(l3 (bM s) (gH s) (fo s)).2):=⟨_,rfl⟩
 rw[show bM s=R.1.1 by rw[hR],show jq s=R.1.2 by rw[hR],show(l3 R.1.1 (gH s) (fo s)).2=R.2 by rw[hR]]
 have hp0:=bv hs (n:=4) (by omega)
 have hat0:=bI (s:=s) (n:=4)
 refine af (jl Z (au ?_))
 refine js Z (aZ (aI (aP O Z Z Z Z Z Z Z Z Z Z Z) Z (au ?_)))
 refine au ?_
 refine js Z (jf [13,3,2,0] Z (jl Z (au ?_)))
 refine jo Z (au ?_)
 refine aZ (aI (HS.lit O Z Z Z) Z (au ?_))
 refine js Z (jn (ah (af (js Z (aO O [500] (bin:=[be s]) Z Z Z Z (gJ (s:=s) (n:=4) h1 h2 hs (by omega) (by omega) (by omega)) Z Z Z Z Z Z (B0:=17000) Z Z (au ?_))))))
 refine js Z (jf [6,5,14,4,13,3,2,0] Z (jn (ak (av (X:=Nat×Src×List Tm×List Int) (fun x=>⟨[(0,.c (.pt 500 0 0)),(2,.c (.pt 2 0 0)),(4,.c (.pt 4 0 0)),(5,.c (.rs 901 0 x.2.2.2.length)),(6,eI (x.1:Nat))],[(2,.box [.d .nils,.d (.int .i64 0),.d .nils]),(4,.box [.rs 900 0 x.2.2.1.length,.d (.int .i64 0),.d .nils]),(500,be x.2.1),(900,oW x.2.2.1),(901,eA x.2.2.2)]⟩) (fun x=>x.2.1.Ok∧bR s=rF x.1 x.2.1 x.2.2.1 x.2.2.2∧DQOk x.1 x.2.2.1 x.2.2.2∧x.2.1.at_+12*x.1≤s.at_+40) (fun x=>x.1) ((s.pick 4).1.toNat,(s.pick 4).2,[],[]) ((((ap [2,4,500,12,14] (e':=[(0,_),(2,_),(4,_),(5,_),(6,_)]) Z Z ⟨Z,Z,Z,Z,Z,aq⟩ Z).trans (ax 12 900 Z Z)).trans (ax 14 901 Z Z)).trans (Ent.to ⟨Z,Z,Z,Z,by rw[Int.toNat_of_nonneg hp0.1];rfl,aq⟩ Z)) ?_ (fun x hi=>?_)))))
 exact⟨hs.pick,Z,⟨Z,by simp only[List.length_nil];omega,by simp,by simp⟩,by simp only;omega⟩
 refine ah (af (ac Z (jn (ar Z (fun z18=>?_) (fun z18=>?_)))))
 refine al (ah (ak (ah ?_)))
 have hk:=cN z18
 have hda:=m9 hi.1
 have h3a:=bI (s:=(er x.2.1).2) (n:=3)
 have hp3:=bv (gq hi.1) (n:=3) (by omega)
 have hle:=hi.2.2.1.le
 have hwl:=hi.2.2.1.len
 refine xk [_,_,_,_,_,_,_,_] [pn [] 0 2,pn [0] 0 2,bc,pe [2] 0,pe [2,3] 1,pe (rg 0 5) 2,pn (rg 0 6) 3 3,pe (rg 0 7) 3] [3,4,5,7] [_,_,_,_,_] [[],[],[900],[]] (ai (ka Z Z (ka Z Z (kw Z Z))) (ai (ka Z Z (ka Z Z (kw Z Z))) (ka Z Z (ai (ai (bm (oO O [500] (bin:=[be x.2.1]) Z Z Z Z (qi (s:=x.2.1) h1 h2 hi.1 (by omega)) Z Z Z Z Z (B0:=25000) Z Z Z Z Z Z)) Z) (ai (ai (bm (eG O Z Z Z Z Z Z Z Z Z Z Z Z Z Z)) Z) (ai (ai (ef (own:=false) (xs:=x.2.2.1.map Tm.cells) (ys:=[Tm.cells (er x.2.1).1]) (zs:=(x.2.2.1++[(er x.2.1).1]).map Tm.cells) (n:=(x.2.2.1++[(er x.2.1).1]).length) O Z Z Z Z Z Z Z Z Z Z Z Z Z Z Z Z (.row Z (cj _).symm) (.whole Z Z (.inr ⟨Z,Z⟩)) (by simp) Z (by simp;omega) (by simp;omega) (by simp) (by simp) Z) Z) (ka Z Z (ai (ai (bm (eS Z Z Z)) Z) trivial)))))))) ?_
 refine jw [18,17,0,2,4,5,6] Z (ie ?_)
 refine ag (ac Z (aO O [500] (bin:=[be (er x.2.1).2]) Z Z Z Z (gJ (s:=(er x.2.1).2) (n:=3) h1 h2 (gq hi.1) (by omega) (by omega) (by omega)) Z Z Z Z Z Z (B0:=31000) Z Z (au ?_)))
 refine jf [30,28,18,17,0,2,4,5,6] Z (aI (HS.lit O Z Z Z) Z (au ?_))
 refine jf [31,28,18,17,0,2,4,5,6] Z (aI (bX (zs:=(x.2.2.2++[((er x.2.1).2.pick 3).1]).map fun n=>[.int .i64 n]) (n:=(x.2.2.2++[((er x.2.1).2.pick 3).1]).length) O Z Z Z Z Z Z Z Z Z Z Z Z Z Z Z Z (.row Z (cj _).symm) Z Z (by decide) Z (by simp;omega) (by simp;omega) (by simp) (by simp)) Z (au ?_))
 refine au ?_
 refine js Z (jf [5,18,17,0,2,4,6] Z (jn (ag (js Z ?_))))
 first|refine ji Z ?_|refine cf Z Z ?_
 refine js Z (jf [6,5,18,17,0,2,4] Z (jn ?_))
 obtain⟨k,hk1⟩: ∃k,x.1=k+1:=⟨x.1-1,by omega⟩
 refine⟨(k,((er x.2.1).2.pick 3).2,x.2.2.1++[(er x.2.1).1],x.2.2.2++[((er x.2.1).2.pick 3).1]),(((ap [2,4,500,26,32] (e':=[(0,_),(2,_),(4,_),(5,_),(6,_)]) Z Z ⟨Z,Z,Z,Z,Z,aq⟩ Z).trans (ax 26 900 Z Z)).trans (ax 32 901 Z Z)).trans (Ent.to ⟨Z,Z,Z,Z,?_,aq⟩ Z),⟨(gq hi.1).pick,by rw[hi.2.1,hk1,rF],by have:=hi.2.2.1;rw[hk1]at this;exact this.step hi.1,by simp only;omega⟩,by simp only;omega⟩
 exact congrArg (fun z=>some (eI z)) (by simp only;omega)
 refine bg (af ?_)
 have hk:=de z18
 obtain⟨k,s1,ts,ws⟩:=x
 simp only at hi hk
 obtain rfl:k=0:=by omega
 obtain⟨hi1,hi2,hi3,hi4⟩:=hi
 have hQ:bR s=((ts,ws),s1):=hi2
 have hle:=hi3.le
 have hwl:=hi3.len
 have hg4:=bv hi1 (n:=4) (by omega)
 have hat4:=bI (s:=s1) (n:=4)
 obtain⟨hgo,_,_⟩:=oG hi3 hg4.1 (show(s1.pick 4).1≤3 by omega)
 have hS:bM s=⟨ts,(mT (ts,ws) (s1.pick 4).1)⟩:=by show(⟨(bR s).1.1,mT (bR s).1 ((bR s).2.pick 4).1⟩:Sq)=_;rw[hQ]
 have hW:gH s=ws++[1]:=by show(bR s).1.2++[1]=_;rw[hQ]
 have hS1:fo s=(s1.pick 4).2:=by show((bR s).2.pick 4).2=_;rw[hQ]
 rw[show jq s=(l3 (bM s) (gH s) (fo s)).1 from Z,hS,hW,hS1]at hR
 obtain⟨q1,q2,q3,q4,q5,q6⟩:=oF hs
 rw[hS,hW]at q3
 rw[hS]at q2 q4
 have hR2:R=((⟨ts,(mT (ts,ws) (s1.pick 4).1)⟩,(lV (ts++[bq (mT (ts,ws) (s1.pick 4).1)]) (ws++[1]) ((s1.pick 4).2.pick 3).1.toNat ((s1.pick 4).2.pick 3).2 [] [] []).1),(lV (ts++[bq (mT (ts,ws) (s1.pick 4).1)]) (ws++[1]) ((s1.pick 4).2.pick 3).1.toNat ((s1.pick 4).2.pick 3).2 [] [] []).2):=by rw[hR];show((_,(lV (eC _).1 _ _ _ [] [] []).1),(lV (eC _).1 _ _ _ [] [] []).2)=_;rw[q2]
 refine aA (Ent.freeze 900 (e':=[(0,_),(2,_),(4,_),(5,_)]) Z (fe [0,2,4,5] Z) (bu Z (.cons Z (.box (.cons (.row Z (cj _).symm) (fk Z))) (bu Z (.skip (eT Z .nil)))))) ?_
 refine au ?_
 refine js Z (jl Z (au ?_))
 refine jo Z (au ?_)
 refine jn (ah (af (js Z (jn (ak (av (X:=Nat) (fun i=>⟨[(0,.c (.pt 500 0 0)),(2,.c (.pt 2 0 0)),(4,.c (.pt 4 0 0)),(5,.c (.rs 901 0 ws.length)),(7,.c (.pt 7 0 0)),(8,eI i)],[(2,.box [.d .nils,.d (.int .i64 0),.d .nils]),(4,.box [.d (pP ts),.d (.int .i64 0),.d .nils]),(7,.box ((mR ts ws i).cells.map .d)),(500,be s1),(901,eA ws)]⟩) (fun i=>i≤ts.length) (fun i=>ts.length-i) 0 ((pG 7 Z (MLess.cons MLe1.refl (MLess.cons (MLe1.nil (sz:=1)) MLess.nil))).trans ((ap [2,4,7,500,901] (e':=[(0,_),(2,_),(4,_),(5,_),(7,_),(8,_)]) Z Z ⟨Z,Z,Z,Z,Z,Z,aq⟩ Z).trans (Ent.to ⟨Z,Z,Z,Z,Z,Z,aq⟩ Z))) ?_ (fun i hi=>?_)))))))
 exact fg _
 refine ah (af (aW Z ?_))
 first|refine eh Z ?_|refine js Z ?_|refine cf Z Z ?_
 refine js Z (jf [38,0,2,4,5,7,8] Z (jn (ar Z (fun z38=>?_) (fun z38=>?_))))
 refine al (ah (ak ?_))
 have hil:i<ts.length:=by have:=cN z38;omega
 have hiw:i<ws.length:=by omega
 have hti:=hi3.ts (ts.getD i default) (by rw[am hil];exact List.getElem_mem _)
 have hwi:=hi3.ws (ws.getD i default) (by rw[am hiw];exact List.getElem_mem _)
 have hsm:=(ja hi3 (i:=i) (by omega)).1
 refine lU [_,_,_,_,_,_,_,_,_,_,_,_,_] [bc,ay [0],bc,ay [0,1,2],bc,bc,ay [4,5],ay [4,5,6],pe (rg 0 8) 0,pn (rg 0 9) 1 1,pn (rg 0 10) 1 1,pn (rg 0 10) 1 2,pe (rg 0 11) 1] [8,12] [_,_,_] (kc Z (kc Z (kc Z (ai (bi O Z Z Z Z Z Z Z Z (gG hil)) (kc Z (kc Z (ai ((cY (c:=(0:Int)≤(i:Int)∧(i:Int)<((ws.length:Nat):Int)) (v:=.c (.pt 901 (0+((i:Nat):Int).toNat) 0)) O Z Z ⟨by omega,by omega⟩).cast (v':=.c (.pt 901 i 0)) (by rw[Int.toNat_natCast,Nat.zero_add])) (ai (dc O (ex:=[.int .i64 (ws.getD i default)]) Z Z Z Z (by rw[List.getElem?_map,List.getElem?_eq_getElem hiw,am hiw];rfl) Z) (ai (oO O [7] (bin:=[.box ((mR ts ws i).cells.map .d)]) Z Z Z Z (vw (a:=mR ts ws i) (m:=1) (b:=ts.getD i default) (n:=(ws.getD i default)) h1 h2 hsm.small hti.small (by decide) (wc.2 (by omega))) Z Z Z Z Z (B0:=51000) Z Z Z Z Z Z) (kc Z (kc Z (ai (kc Z (V Z)) (ai (eS Z Z Z) trivial))))))))))))) ?_
 refine jw [38,0,2,4,5,7,8] Z (ie ?_)
 refine ag (js Z ?_)
 first|refine ji Z ?_|refine cf Z Z ?_
 refine js Z (jf [8,38,0,2,4,5,7] Z (jn ?_))
 refine⟨i+1,(ap [2,4,7,500,901] (e':=[(0,_),(2,_),(4,_),(5,_),(7,_),(8,_)]) Z Z ⟨Z,Z,Z,Z,Z,Z,aq⟩ Z).trans (Ent.to ⟨Z,Z,Z,Z,Z,Z,aq⟩ Z),by omega,by omega⟩
 refine bg (af (js Z ?_))
 have hin:i=ts.length:=by have:=de z38;omega
 subst hin
 refine aO O [500] (bin:=[be s1]) Z Z Z Z (gJ (s:=s1) (n:=4) h1 h2 hi1 (by omega) (by omega) (by omega)) Z Z Z Z Z Z (B0:=56000) Z Z (au ?_)
 refine js Z (jf [56,38,0,2,4,5,7,8] Z (jx Z (au ?_)))
 refine aA (Ent.freeze 57 (e':=[(57,_),(0,_),(2,_),(4,_),(5,_),(7,_)]) Z (.cons Z (.c (.box (cs:=Tm.cells ⟨(s1.pick 4).1,[]⟩) Z (.cons .d (.cons .nils .nil)))) (fe [0,2,4,5,7] Z)) (bu Z (bu Z (bu Z (.skip (eT Z (bu Z .nil))))))) ?_
 refine au ?_
 refine aA (Ent.freeze 7 (e':=[(0,_),(2,_),(4,_),(5,_),(7,_),(57,_)]) Z (.cons Z (.keep Z) (.cons Z (.keep Z) (.cons Z (.keep Z) (.cons Z (.keep Z) (.cons Z (.c (.box (cs:=(mR ts ws ts.length).cells) Z (aK Z))) (fe [57] Z)))))) (bu Z (bu Z (.skip (eT Z (bu Z .nil)))))) ?_
 refine ab O Z Z Z Z ((uN (a:=mR ts ws ts.length) (m:=1) (b:=⟨(s1.pick 4).1,[]⟩) (n:=1) h1 h2 (ja hi3 (bP _)).1.small (Sm0.const (B:=3) (by omega) (by omega)).small (by decide) (by decide)).plain (u:=.tup [cP (mT (ts,ws) (s1.pick 4).1),eB (jj (mR ts ws ts.length) 1 ⟨(s1.pick 4).1,[]⟩ 1).2]) Z) (aa Z) Z Z Z Z (B0:=59000) Z Z (aW Z (jf [60,59,0,2,4,5,7] Z (jl Z (au ?_))))
 refine jo Z (au ?_)
 refine js Z (jf [9,0,2,4,5,7] Z (aZ (ac Z (jo Z (au ?_)))))
 refine jf [9,0,2,4,5,7] Z (aZ (js Z (aI (HS.lit O Z Z Z) Z (au ?_))))
 refine aI (bX (zs:=(ws++[1]).map fun n=>[.int .i64 n]) (n:=(ws++[1]).length) O Z Z Z Z Z Z Z Z Z Z Z Z Z Z Z Z (.row Z (cj _).symm) Z Z (by decide) Z (by simp;omega) (by simp;omega) (by simp) (by simp)) Z (au ?_)
 refine aA (Ent.freeze 65 (e':=[(0,_),(2,_),(4,_),(65,_)]) Z (.cons Z (.keep Z) (.cons Z (.keep Z) (.cons Z (.keep Z) (.cons Z (.c (.row Z (cj _).symm)) .nil)))) (bu Z (bu Z (bu Z (.skip (bu Z .nil)))))) ?_
 refine au ?_
 refine au ?_
 refine js Z (aZ (aW Z (aO O [500] (bin:=[be (s1.pick 4).2]) rfl rfl rfl rfl (vz (s:=(s1.pick 4).2) (q:=⟨ts,(mT (ts,ws) (s1.pick 4).1)⟩) (ctx:=ts++[bq (mT (ts,ws) (s1.pick 4).1)]) (ws:=ws++[1]) h1 h2 hi1.pick (by omega) q2 hgo.small (by show ts.length≤1000;omega) (⟨q4,by simp[hwl],by simp,by simp;omega,fun w hw=>by rcases List.mem_append.1 hw with hw|hw;exact hi3.ws w hw;simp only[List.mem_singleton]at hw;subst hw;decide,by simp⟩)) rfl rfl rfl rfl rfl rfl (B0:=70000) rfl rfl (au ?_))))
 refine js Z (jf [11,5,65,0,2,4] Z (aZ (ac Z (jf [71,70,5,65,0,2,4] Z (jo Z (au ?_))))))
 refine js Z (jf [3,5,65,0,2,4] Z (jr ?_))
 rw[hR2]
 refine⟨.inl Z,_,cn,_,Z,Z,Z⟩
end Go.Al
/- Trivial proofs: plain Lean. -/
namespace Go.Al
variable{L:Nat}(h1:4096≤L)(h2:L≤1073741824)
open Go.Lib Go.Proofs
def jh(m i:Nat):List (List Int):=[(m:Int)]::(List.range i).map fun(k:Nat)=>[(k:Int)]
def gb(m i:Nat):List (List Int):=jh m m++(List.range i).map fun(k:Nat)=>[(k:Int),(m:Int)]
theorem oZ{m i:Nat}:jh m (i+1)=jh m i++[[(i:Int)]]:=by simp[jh,List.range_succ]
theorem oY{m i:Nat}:gb m (i+1)=gb m i++[[(i:Int),(m:Int)]]:=by simp[gb,List.range_succ]
theorem tE{m:Nat}:gb m 0=jh m m:=by simp[gb]
theorem dK{m i:Nat}:(jh m i).length=i+1:=by simp[jh]
theorem c5{m i:Nat}:(gb m i).length=m+1+i:=by simp[gb,jh];omega
theorem rS{m:Nat}{l:List Int}(h:l∈gb m m):l.length≤2∧∀x∈l,0≤x∧x≤m:=by
 rcases List.mem_append.1 h with h|h
 rcases List.mem_cons.1 h with rfl|h
 simp
 obtain⟨k,hk,rfl⟩:=List.mem_map.1 h
 have:=List.mem_range.1 hk
 simp;omega
 obtain⟨k,hk,rfl⟩:=List.mem_map.1 h
 have:=List.mem_range.1 hk
 simp;omega
def el(n:Nat)(l:List Int):List Int:=l.foldl (fun xs i=>xs.set i.toNat 1) (List.replicate n 0)
theorem jE{n:Nat}{l:List Int}:(el n l).length=n:=by
 have: ∀(l:List Int) (xs:List Int),(l.foldl (fun xs i=>xs.set i.toNat 1) xs).length=xs.length:=by
  intro l
  induction l with
  | nil=>intro xs;rfl
  | cons x r ih=>intro xs;rw[List.foldl_cons,ih,List.length_set]
 unfold el
 rw[this,List.length_replicate]
theorem oz{n:Nat}{l:List Int}: ∀x∈el n l,x=0∨x=1:=by
 have: ∀(l:List Int) (xs:List Int),(∀x∈xs,x=0∨x=1)→∀x∈l.foldl (fun xs i=>xs.set i.toNat 1) xs,x=0∨x=1:=by
  intro l
  induction l with
  | nil=>intro xs h;exact h
  | cons y r ih=>
   intro xs h
   rw[List.foldl_cons]
   refine ih _ fun x hx=>?_
   rcases List.mem_or_eq_of_mem_set hx with hx|hx
   exact h x hx
   exact .inr hx
 exact this l _ fun x hx=>.inl (List.eq_of_mem_replicate hx)
theorem pj{n i:Nat}{l:List Int}(h:i<l.length):el n (l.take (i+1))=(el n (l.take i)).set (l.getD i default).toNat 1:=by
 unfold el
 rw[List.take_succ_eq_append_getElem h,List.foldl_append,am h];rfl
theorem qY{n:Nat}{l:List Int}:(el n l).all dT=true:=List.all_eq_true.2 fun x hx=>by
 rcases oz x hx with rfl|rfl<;>decide
theorem tV{n:Nat}{l:List Int}(h:n≤20):kl (el n l)=true:=by
 unfold kl
 rw[aN,List.all_eq_true]
 refine⟨fun x hx=>?_,decide_eq_true (by rw[jE];omega)⟩
 rcases oz x hx with rfl|rfl<;>decide
def oQ(ctx:List Tm):List (List Int)→Option (List Int)
  | []=>none
  | l::r=>if bd ctx (el ctx.length l)=true then some (el ctx.length l)else oQ ctx r
theorem mb{ctx:List Tm}{ms:List Int}: ∀{ls:List (List Int)},oQ ctx ls=some ms→bd ctx ms=true∧∃l,ms=el ctx.length l
 | [],h=>by cases h
 | l::r,h=>by
  rw[oQ]at h
  split at h
  cases h;exact⟨by assumption,l,rfl⟩
  exact mb h
theorem og{ctx:List Tm}: ∀{ls:List (List Int)} {l:List Int},l∈ls→bd ctx (el ctx.length l)=true→∃ms,oQ ctx ls=some ms
 | [],_,h,_=>by cases h
 | x::r,l,h,hc=>by
  rw[oQ]
  split
  exact⟨_,Z⟩
  rename_i h0
  rcases List.mem_cons.1 h with rfl|h
  exact absurd hc h0
  exact og h hc
theorem md{ctx:List Tm}{ls:List (List Int)}{i:Nat}(h:i<ls.length):oQ ctx (ls.drop i)=if bd ctx (el ctx.length (ls.getD i default))=true then some (el ctx.length (ls.getD i default))else oQ ctx (ls.drop (i+1)):=by
 rw[List.drop_eq_getElem_cons h,oQ,am h]
def uw(ctx:List Tm):Option (List Int):=oQ ctx (gb (ctx.length-1) (ctx.length-1))
def td:Option (List Int)→List Nd×Bool
  | none=>([],false)
  | some ms=>([iI ms],true)
def gc(q:Sq):List Nd×Bool:=if(bT q).2=true then td (uw (bT q).1)else([],false)
theorem si{q:Sq}{ms:List Int}(h:(bT q).2=true)(hm:kl ms=true)(hc:bd (bT q).1 ms=true):l4 q [iI ms]=true:=by
 have hnd:cQ (iI ms)=true:=by
  unfold cQ
  rw[if_pos Z,hm];rfl
 have hat:(Pf.close (iI ms)).At [iI ms] 0:=⟨rfl,hnd,rfl⟩
 have hB:gD [iI ms]=true:=by
  unfold gD
  rw[hat.endP]
  simp[hnd,Pf.size]
 rw[←qh h (by rw[fw];exact hB) hat Z]
 refine decide_eq_true ?_
 show(ew (Pf.close (iI ms)) 0 (bT q).1 ⟨[],-1⟩).flaw<0
 rw[ew,if_pos hc]
 show(-1:Int)<0
 decide
theorem oc{q:Sq}(h:(gc q).2=true):(gc q).1.length=1∧l4 q (gc q).1=true:=by
 unfold gc at h ⊢
 split at h
 rename_i hc
 rw[if_pos hc]
 cases ht:uw (bT q).1 with
 | none=>rw[ht]at h;cases h
 | some ms=>
  obtain⟨h1,l,rfl⟩:=mb ht
  refine⟨Z,?_⟩
  refine si hc (tV ?_) h1
  obtain⟨hs,ho⟩:=lh hc
  have:=eH hs
  unfold bT
  rw[hs,ho]
  simp only[Bool.and_self,if_true,dS,oP]
  omega
 cases h
theorem rT:[(0:Int),1]∈gb 1 1:=by decide
def nU(u t:Tm):Tm×Bool:=if(l5 [u,t] [1,1]).ok=true then(l5 [u,t] [1,1],true)else(⟨0,[]⟩,false)
theorem xu{u t:Tm}:jj t 1 u 1=nU u t:=by
 unfold jj k5 nU
 have h1:(1*t.c+1*u.c)=ba Tm.c [u,t] [1,1]:=by simp only[ba]<;>omega
 have h2:dB t 1 u 1=bC [u,t] [1,1]:=by
  unfold dB bC
  apply List.map_congr_left
  intro k _
  simp only[ba,cE]<;>omega
 rw[h1,h2]
theorem qG{x:Tm}{B C:Nat}{c:Int}(hx:Sm0 B C x)(hB:B≤900000)(hC:C≤900000)(h0:0≤c)(h1:c≤4):(nU x ⟨c,[]⟩).2=true∧(gc ⟨[x],(nU x ⟨c,[]⟩).1⟩).2=true:=by
 have hs:=eW (M:=1) (N:=1) hx (Sm0.const (n:=c) (B:=4) (by omega) (by omega)) (m:=1) (n:=1) (by decide) (by decide) (by omega) (by omega)
 have hs':=eW (M:=1) (N:=1) (Sm0.const (n:=c) (B:=4) (by omega) (by omega)) hx (m:=1) (n:=1) (by decide) (by decide) (by omega) (by omega)
 have ha:nU x ⟨c,[]⟩=_:=xu.symm.trans hs'.1
 refine⟨by rw[ha],?_⟩
 have hgo:Sm0 (1*4+1*B) (1*0+1*C) (nU x ⟨c,[]⟩).1:=by rw[ha];exact hs'.2
 have hgc:(nU x ⟨c,[]⟩).1.c=x.c+c:=by rw[ha];show 1*c+1*x.c=_;omega
 have hgk: ∀k,k<10→cE k (nU x ⟨c,[]⟩).1=cE k x:=fun k hk=>by
  rw[ha]
  show cE k ⟨1*c+1*x.c,_⟩=_
  have:=jA (a:=⟨c,[]⟩) (b:=x) (m:=1) (n:=1) hk
  rw[show cE k ⟨1*c+1*x.c,aS (dB ⟨c,[]⟩ 1 x 1)⟩=_ from this]
  show 1*([]:List Int).getD k 0+1*cE k x=_
  simp
 generalize (nU x ⟨c,[]⟩).1=g at hgo hgc hgk
 have hop:(df g).2=true:=by
  have:=(eW (M:=1) (N:=1) hgo (Sm0.const (n:=1) (B:=1) (by decide) (by omega)) (m:= -1) (n:= -1) (by decide) (by decide) (by omega) (by omega)).1
  unfold df;rw[this]
 have hop2:=kx (t:=g) ▸ hop
 have hc:bT ⟨[x],g⟩=([x]++[bq g],true):=by
  unfold bT ii gK
  simp[hx.ok,hgo.ok,hop2]
 unfold gc
 rw[hc,if_pos Z]
 have hcl:bd [x,bq g] (el 2 [0,1])=true:=by
  have e:el 2 [0,1]=[1]++[1]:=rfl
  rw[e]
  refine iE (ctx:=[x]++[bq g]) Z (fun k hk=>?_) ?_
  rw[eL Z,ow hk,hgk k hk]
  show 1*cE k x+0+1* -(cE k x)=0
  omega
  rw[eL Z]
  show 1*x.c+0+1*(-1*g.c+0-1)<0
  omega
 obtain⟨ms,hms⟩:=og (ctx:=[x,bq g]) rT hcl
 show(td (oQ [x,bq g] (gb 1 1))).2=true
 rw[hms];rfl
theorem sH{n:Nat}{p:List Nd}{k k':Nat}{d:Int}(h:cC n p k=some (k',d)):1≤d:=by
 cases n with
 | zero=>cases h
 | succ n=>
  unfold cC at h
  split at h
  cases h
  split at h
  cases h
  simp only[Option.map_eq_some_iff]at h
  obtain⟨⟨k2,d2⟩,h1,h2⟩:=h
  simp only[Prod.mk.injEq]at h2
  have:=jG (N:=p.length) (fun k b k' h=>je h) h1 (by omega) (bP _) (Int.le_refl 0) (by omega)
  omega
theorem t5{p:List Nd}(h:gD p=true): ∃d,cC (p.length+1) p 0=some (p.length,d)∧1≤d∧d≤p.length:=by
 rw[←fw]at h
 unfold ku at h
 simp only[aN,decide_eq_true_eq]at h
 obtain⟨k,d,hr⟩:=lD h.2.1
 have h3:=h.2.2
 rw[hr]at h3
 obtain rfl:k=p.length:=by have h3:(k:Int)=p.length:=h3;omega
 have:=je hr
 exact⟨d,hr,sH hr,by omega⟩
set_option maxHeartbeats 8000000
theorem rf{xs:List Int}{i:Nat}(h:i<xs.length):(xs.map fun n=>[D.int .i64 n])[i]? = some [D.int .i64 (xs.getD i default)]:=by rw[List.getElem?_map,List.getElem?_eq_getElem h,am h];rfl
def tm(t:Tm):Tm×Bool:=if t.ok=true then(t,true)else(⟨0,[]⟩,false)
theorem vV{t:Tm}:MQ h1 h2 40 [cP t] [] (Plain (fi (tm t))):=by
 refine MC.data (jB 10 h1 h2 Tryz.func40 Z fun O hF=>?_)
 refine af (jx Z (jl Z (js Z (jn (ah (af (js Z (bE Z (k8 (t:=t) h1 h2) 6000 Z (js Z (jn (ar Z (fun z6=>?_) (fun z6=>?_))))))))))))
 refine af (js Z (jo Z (js Z (jr ?_))))
 refine aC Z ?_
 have hok:t.ok=false:=by simpa using z6
 rw[show tm t=(⟨0,[]⟩,false)from if_neg (by rw[hok];decide)]
 exact .tup (.cons (.agg (.cons .d (.cons .nils .nil))) (.cons (.c .d) .nil))
 refine al (af (js Z (ab O Z Z Z Z (rL (t:=t) h1 h2) (aa Z) Z Z Z Z (B0:=10000) Z Z (jo Z (js Z (jr ?_))))))
 refine aC Z ?_
 have hok:t.ok=true:=by simpa using z6
 rw[show tm t=(t,true)from if_pos hok]
 exact .tup (.cons (.agg (aK Z)) (.cons (.c .d) .nil))
theorem vT{u t:Tm}(hu:u.ok=true)(ht:t.ok=true):MQ h1 h2 14 [cP u,cP t] [] (Plain (fi (nU u t))):=by
 refine MC.data (jB 23 h1 h2 Tryz.func14 Z fun O hF=>?_)
 refine af (jx Z (au ?_))
 refine jf [2,1] Z (jx Z (au ?_))
 refine jf [3,2] Z (jl Z (au ?_))
 refine js Z (jn (ah (af (js Z (bE Z ((k8 (t:=u) h1 h2).plain (u:=eB true) (by rw[hu])) 8000 Z (ac Z (jf [9,5,4,3,2] Z (b9 Z (js Z (b9 Z (bE Z ((k8 (t:=t) h1 h2).plain (u:=eB true) (by rw[ht])) 12000 Z (jf [11,9,5,4,3,2] Z (b9 Z (js Z (aj (aU O Z Z Z Z Z) Z (jf [13,5,4,3,2] Z (jn (ar Z (fun z13=>?_) (fun z13=>?_)))))))))))))))))))
 exact absurd z13 (by decide)
 refine al (af (ac Z (jf [16,15,5,4,3,2] Z (aI (aP O Z Z Z Z Z Z Z Z Z Z Z) Z (au ?_)))))
 refine au ?_
 refine jf [17,5,4,3,2] Z (aI (HS.lit O Z Z Z) Z (au ?_))
 refine aA (Ent.freeze 17 (e':=[(17,_),(18,_),(2,_),(3,_),(4,_)]) Z (.cons Z (.c (.row Z Z)) (fe [18,2,3,4] Z)) (bu Z (bu Z (bu Z (.skip (eT Z .nil)))))) ?_
 refine aA (Ent.freeze 18 (e':=[(17,_),(18,_),(2,_),(3,_),(4,_)]) Z (.cons Z (.keep Z) (.cons Z (.c (.row Z Z)) (fe [2,3,4] Z))) (bu Z (bu Z (bu Z (.skip .nil))))) ?_
 refine au ?_
 refine ab O rfl rfl rfl rfl (tn (ts:=[u,t]) (ms:=[1,1]) h1 h2 ⟨fun x hx=>by simp only[List.mem_cons,List.not_mem_nil,or_false]at hx;rcases hx with rfl|rfl;exact hu;exact ht,by show(2:Nat)≤1000;decide⟩ (by decide) (bP _)) (aa rfl) rfl rfl rfl rfl (B0:=20000) rfl rfl (jf [19,2,3,4] Z (ab O Z Z Z Z ((vV (t:=l5 [u,t] [1,1]) h1 h2).plain (u:=fi (nU u t)) Z) (aa Z) Z Z Z Z (B0:=21000) Z Z (ac Z (jf [22,21,2,3,4] Z (jo Z (au ?_))))))
 refine js Z (jf [5,2,3,4] Z (jr ?_))
 refine aC Z ?_
 exact .tup (.cons (.agg (aK Z)) (.cons (.c .d) .nil))
variable{xs:List Int}
theorem vJ(hx: ∀n∈xs,0≤n∧n≤255):MQ h1 h2 7 [.c (.d (bys xs))] [] (Plain (.tup [kj (bM ⟨xs,0,0⟩),bN (jq ⟨xs,0,0⟩)])):=by
 refine MC.data (jB 11 h1 h2 Tryz.func7 Z fun O hF=>?_)
 obtain⟨q,hq⟩: ∃q,q=bM ⟨xs,0,0⟩:=⟨_,rfl⟩
 obtain⟨p,hp⟩: ∃p,p=jq ⟨xs,0,0⟩:=⟨_,rfl⟩
 obtain⟨s2,hs2⟩: ∃s2,s2=(l3 (bM ⟨xs,0,0⟩) (gH ⟨xs,0,0⟩) (fo ⟨xs,0,0⟩)).2:=⟨_,rfl⟩
 rw[←hq,←hp]
 refine af (jl Z (au ?_))
 refine js Z (aZ (js Z (jf [5,3,2] Z (aO O [] (bin:=[]) Z Z Z Z (s8 (xs:=xs) h1 h2) Z Z Z Z Z Z (B0:=7000) Z Z (au ?_)))))
 refine js Z (jf [4,3,2] Z (aZ (js Z (jf [7,3,2] Z ?_))))
 have hT:=vA (s:=⟨xs,0,0⟩) h1 h2 ⟨hx⟩ (by show(0:Nat)≤999999600;decide)
 rw[←hq,←hp]at hT
 rw[show(l3 q (gH ⟨xs,0,0⟩) (fo ⟨xs,0,0⟩)).2=s2 by rw[hs2,hq]]at hT
 refine aO O [7000] (bin:=[be ⟨xs,0,0⟩]) Z Z Z Z (hT) Z Z Z Z Z Z (B0:=9000) Z Z (au ?_)
 refine ac Z (jf [10,9,3,2] Z (jo Z (au ?_)))
 refine js Z (jf [3,2] Z (jr ?_))
 refine aC Z ?_
 exact .tup (.cons (.agg (aK Z)) (.cons (.c .d) .nil))
variable{p:List Nd}
theorem vG(hb:gD p=true)(hL:1048576<L):MQ h1 h2 8 [bN p] [] (Plain (.tup [fm (sK p),eB true])):=by
 refine MC.data (jB 9 h1 h2 Tryz.func8 Z fun O hF=>?_)
 refine af (ac Z (jn (ah (af (js Z (bE Z (qa (p:=p) h1 h2) 6000 Z (js Z (jf [6,3,2,0] Z (jn (ar Z (fun z6=>?_) (fun z6=>?_)))))))))))
 exact absurd z6 (by rw[fw,hb];decide)
 refine al (af (js Z (jf [7,3,2,0] Z (bE Z (vL (p:=p) h1 h2 hb hL) 9000 Z (ac Z (jf [3,2,0] Z (jr ?_)))))))
 refine aC Z ?_
 exact .tup (.cons (.c .d) (.cons (.c .d) .nil))
theorem vE{d:Int}(hb:gD p=true)(hd:cC (p.length+1) p 0=some (p.length,d)):MQ h1 h2 10 [bN p] [] (Plain (.tup [eI d,eB true])):=by
 refine MC.data (jB 17 h1 h2 Tryz.func10 Z fun O hF=>?_)
 refine af (ac Z (jn (ah (af (js Z (bE Z (qa (p:=p) h1 h2) 9000 Z (js Z (jf [9,3,2,0] Z (jn (ar Z (fun z9=>?_) (fun z9=>?_)))))))))))
 exact absurd z9 (by rw[fw,hb];decide)
 refine al (af (js Z (jf [11,3,2,0] Z (ab O Z Z Z Z ((oX (p:=p) (n:=p.length+1) (k:=0) h1 h2 (fg _) (by omega)).plain (u:=.tup [eI (p.length:Nat),eI d,eB true]) (by rw[hd])) (aa Z) Z Z Z Z (B0:=13000) Z Z (aT Z (aW Z (jf [5,3,2,0] Z (aZ (aW Z (jf [3,2,0] Z (jr ?_)))))))))))
 refine aC Z ?_
 exact .tup (.cons (.c .d) (.cons (.c .d) .nil))
def ta(xs:List Int):Int:=if(0:Int)<xs.length then(xs.getD 0 default).tmod 5 else 0
theorem vB(hx: ∀n∈xs,0≤n∧n≤255):MQ h1 h2 15 [.c (.d (bys xs)),eI 0,eI 5] [] (Plain (eI (ta xs))):=by
 refine MC.data (jB 22 h1 h2 Tryz.func15 Z fun O hF=>?_)
 refine af (js Z (jn (ah (af (aW Z (jf [9,6,0,1,2] Z (b9 Z (js Z (b9 Z (js Z (b9 Z ?_)))))))))))
 first|refine eh Z ?_|refine js Z ?_|refine cf Z Z ?_
 refine jf [12,10,9,6,0,1,2] Z (b9 Z (js Z (aj (aU O Z Z Z Z Z) Z (jf [14,6,0,1,2] Z (jn (ar Z (fun z14=>?_) (fun z14=>?_)))))))
 refine af (js Z (jr ?_))
 refine aC Z ?_
 rw[show ta xs=0 from if_neg (by have:=cN z14;omega)]
 exact .v (.c .d)
 refine al (af (ac Z ?_))
 have h0:0<xs.length:=by have:=de z14;omega
 have hb:=hx (xs.getD 0 default) (by rw[am h0];exact List.getElem_mem _)
 refine aj (bi O Z Z Z Z Z Z Z Z (gG (n:=0) h0)) Z (js Z (aj ((Val.conv O (k':=.i64) (dt:=.int .u8) (b:=true) Z Z Z (by kernel_rfl) (by kernel_rfl)).cast (v':=eI (xs.getD 0 default)) (congrArg eI (dZ .i64 _ (by show(-9223372036854775808:Int)≤_;omega) (by show _≤(9223372036854775807:Int);omega)))) Z (js Z (aj (eM O Z Z Z Z (by omega) (by have:=dk (n:=5) hb.1 (by omega);omega) (by have:=dk (n:=5) hb.1 (by omega);omega)) Z (js Z (jf [6,0,1,2] Z (jr ?_)))))))
 refine aC Z ?_
 rw[show ta xs=(xs.getD 0 default).tmod 5 from if_pos (by omega)]
 exact .v (.c .d)
theorem sY{q:Sq}:MQ h1 h2 12 [kj q] [] (Plain (.tup [bN (gc q).1,eB (gc q).2])):=by
 refine MC.data (jB 75 h1 h2 Tryz.func12 Z fun O hF=>?_)
 refine af (jx Z (au ?_))
 refine ac Z (aZ (js Z (jf [16,3,2,0] Z (ab O Z Z Z Z (tw (s:=q) h1 h2) (aa Z) Z Z Z Z (B0:=18000) Z Z (aT Z (js Z (jf [5,4,3,2,0] Z (jn (ah (af (ac Z (jf [21,4,3,2,0] Z (jn (ar Z (fun z21=>?_) (fun z21=>?_)))))))))))))))
 refine af (ac Z (jr ?_))
 refine aC Z ?_
 have hcn:(bT q).2=false:=by simpa using z21
 rw[show gc q=([],false)from if_neg (by rw[hcn];decide)]
 exact .tup (.cons (.c .nils) (.cons (.c .d) .nil))
 refine al (af ?_)
 have hcy:(bT q).2=true:=by simpa using z21
 obtain⟨c0,r0,hcr,hco⟩:=kU hcy
 obtain⟨hsq,_⟩:=lh hcy
 have hfl:=(eH hsq).2.1
 obtain⟨ctx,hctx⟩: ∃ctx,ctx=(bT q).1:=⟨_,rfl⟩
 rw[←hcr]at hco
 rw[←hctx]at hco
 rw[←hctx]
 have hlen:ctx.length=q.facts.length+1:=by rw[hctx];unfold bT at hcy ⊢;split at hcy;rename_i hh;rw[if_pos hh];simp;cases hcy
 obtain⟨m,hm⟩: ∃m,m=q.facts.length:=⟨_,rfl⟩
 rw[←hm]at hlen
 have hm13:m≤13:=by omega
 have htr:gc q=td (uw ctx):=by unfold gc;rw[if_pos hcy,hctx]
 have htc:uw ctx=oQ ctx (gb m m):=by unfold uw;rw[hlen];rfl
 refine js Z ?_
 first|refine eh Z ?_|refine js Z ?_|refine cf Z Z ?_
 refine aj ((bf O Z Z (by omega) (by omega)).cast (v':=eI (m:Nat)) (congrArg eI (by omega))) Z (js Z (jf [6,4,3,2,0] Z (aZ (js Z (aI (aP O Z Z Z Z Z Z Z Z Z Z Z) Z (au ?_))))))
 refine aA (ap [26] (e':=[(26,_),(4,_),(6,_)]) Z Z ⟨Z,Z,Z,aq⟩ Z) (aA (Ent.freeze 26 (e':=[(26,_),(4,_),(6,_)]) Z (.cons Z (.c (.row Z Z)) (fe [4,6] Z)) (.skip .nil)) ?_)
 refine au ?_
 refine au ?_
 refine aI (aP O Z Z Z Z Z Z Z Z Z Z Z) Z (au ?_)
 refine au ?_
 refine js Z (jf [7,4,6] Z (jn (ah (af (ac Z (jn (ak (av (X:=Nat) (fun i=>⟨[(4,cO ctx),(6,eI (m:Nat)),(7,.c (.rs 900 0 (i+1))),(28,eI (m:Nat)),(29,eI i)],[(900,.row false 1 ((jh m i).map (fun l:List Int=>[dV l])))]⟩) (fun i=>i≤m) (fun i=>m-i) 0 (((ap [27] (e':=[(4,_),(6,_),(7,_),(28,_),(29,_)]) Z Z ⟨Z,Z,Z,Z,Z,aq⟩ Z).trans (ax 27 900 Z Z)).trans (Ent.to ⟨Z,Z,Z,Z,Z,aq⟩ Z)) ?_ (fun i hi=>?_)))))))))
 exact fg _
 refine af (js Z (jn (ah (ar Z (fun z30=>?_) (fun z30=>?_)))))
 refine al (ah (ak (af (ac Z (jn (ag (ac Z (jf [33,32,31,30,4,6,7,28,29] Z (aI (aP O Z Z Z Z Z Z Z Z Z Z Z) Z (au ?_))))))))))
 refine aA (ap [900,34] (e':=[(34,_),(32,_),(4,_),(6,_),(28,_),(29,_)]) Z Z ⟨Z,Z,Z,Z,Z,Z,aq⟩ Z) (aA (Ent.freeze 34 (e':=[(34,_),(32,_),(4,_),(6,_),(28,_),(29,_)]) Z (.cons Z (.c (.row Z Z)) (fe [32,4,6,28,29] Z)) (eT Z (.skip .nil))) ?_)
 refine au ?_
 refine au ?_
 refine aI (aP O Z Z Z Z Z Z Z Z Z Z Z) Z (au ?_)
 refine au ?_
 refine jf [35,32,4,6,28,29] Z (aI (cw (own:=false) (xs:=(jh m i).map (fun l:List Int=>[dV l])) (ys:=[[dV [(i:Int)]]]) (zs:=(jh m (i+1)).map (fun l:List Int=>[dV l])) (n:=i+2) O Z (.row Z (by simp[dK])) (.whole Z Z (.inr ⟨Z,Z⟩)) (by simp) Z (by simp[dK,c5];omega) (by simp[dK,c5];omega) (by rw[oZ,List.map_append];rfl) (by simp[dK,c5])) Z (au ?_))
 refine au ?_
 refine js Z (jf [7,4,6,28,29] Z (jn (ag ?_)))
 first|refine ji Z ?_|refine cf Z Z ?_
 refine js Z (jn ?_)
 have hil:=cN z30
 refine⟨i+1,((ap [36] (e':=[(4,_),(6,_),(7,_),(28,_),(29,_)]) Z Z ⟨Z,Z,Z,Z,Z,aq⟩ Z).trans (ax 36 900 Z Z)).trans (Ent.to ⟨Z,Z,Z,Z,Z,aq⟩ Z),by omega,by omega⟩
 refine bg (ah (af (ac Z (jn (ak ?_)))))
 have him:m=i:=by have:=de z30;omega
 subst him
 refine av (X:=Nat) (fun j=>⟨[(4,cO ctx),(6,eI (m:Nat)),(7,.c (.rs 901 0 (m+1+j))),(38,eI (m:Nat)),(39,eI j)],[(901,.row false 1 ((gb m j).map (fun l:List Int=>[dV l])))]⟩) (fun j=>j≤m) (fun j=>m-j) 0 (((ap [900] (e':=[(4,_),(6,_),(7,_),(38,_),(39,_)]) Z Z ⟨Z,Z,Z,Z,Z,aq⟩ Z).trans (ax 900 901 Z Z)).trans (Ent.to ⟨Z,Z,Z,Z,Z,aq⟩ (by rw[tE];rfl))) ?_ (fun j hi=>?_)
 exact fg _
 refine af (js Z (jn (ah (ar Z (fun z40=>?_) (fun z40=>?_)))))
 refine al (ah (ak (af (ac Z (jn (ag (aW Z (jf [44,43,42,41,40,4,6,7,38,39] Z (aI (aP O Z Z Z Z Z Z Z Z Z Z Z) Z (au ?_))))))))))
 refine aA (ap [901,45] (e':=[(45,_),(42,_),(4,_),(6,_),(38,_),(39,_)]) Z Z ⟨Z,Z,Z,Z,Z,Z,aq⟩ Z) (aA (Ent.freeze 45 (e':=[(45,_),(42,_),(4,_),(6,_),(38,_),(39,_)]) Z (.cons Z (.c (.row Z Z)) (fe [42,4,6,38,39] Z)) (eT Z (.skip .nil))) ?_)
 refine au ?_
 refine au ?_
 refine aI (aP O Z Z Z Z Z Z Z Z Z Z Z) Z (au ?_)
 refine au ?_
 refine jf [46,42,4,6,38,39] Z (aI (cw (own:=false) (xs:=(gb m j).map (fun l:List Int=>[dV l])) (ys:=[[dV [(j:Int),(m:Int)]]]) (zs:=(gb m (j+1)).map (fun l:List Int=>[dV l])) (n:=m+1+(j+1)) O Z (.row Z (by simp[c5])) (.whole Z Z (.inr ⟨Z,Z⟩)) (by simp) Z (by simp[dK,c5];omega) (by simp[dK,c5];omega) (by rw[oY,List.map_append];rfl) (by simp[dK,c5])) Z (au ?_))
 refine au ?_
 refine js Z (jf [7,4,6,38,39] Z (jn (ag ?_)))
 first|refine ji Z ?_|refine cf Z Z ?_
 refine js Z (jn ?_)
 have hjl:=cN z40
 refine⟨j+1,((ap [47] (e':=[(4,_),(6,_),(7,_),(38,_),(39,_)]) Z Z ⟨Z,Z,Z,Z,Z,aq⟩ Z).trans (ax 47 901 Z Z)).trans (Ent.to ⟨Z,Z,Z,Z,Z,aq⟩ Z),by omega,by omega⟩
 refine bg (ah (af (js Z ?_)))
 first|refine eh Z ?_|refine js Z ?_|refine cf Z Z ?_
 refine js Z (jn (ak ?_))
 have hjm:m=j:=by have:=de z40;omega
 subst hjm
 obtain⟨ls,hls⟩: ∃ls,ls=gb m m:=⟨_,rfl⟩
 have hll:ls.length=m+1+m:=by rw[hls,c5]
 rw[←hls]at htc ⊢
 rw[←hll]
 refine av (X:=Nat) (fun z=>⟨[(4,cO ctx),(49,.c (.rs 901 0 ls.length)),(50,eI ls.length),(51,eI z)],[(901,.row false 1 ((ls).map (fun l:List Int=>[dV l])))]⟩) (fun z=>z≤ls.length∧oQ ctx ls=oQ ctx (ls.drop z)) (fun z=>ls.length-z) 0 ((ap [901] (e':=[(4,_),(49,_),(50,_),(51,_)]) Z Z ⟨Z,Z,Z,Z,aq⟩ Z).trans (Ent.to ⟨Z,Z,Z,Z,aq⟩ Z)) ?_ (fun z hi=>?_)
 exact⟨fg _,Z⟩
 refine af (js Z (jn (ah (ar Z (fun z52=>?_) (fun z52=>?_)))))
 refine al (ah (ak (af ?_)))
 have hzl:z<ls.length:=by have:=cN z52;omega
 obtain⟨l,hl0⟩: ∃l,l=ls.getD z default:=⟨_,rfl⟩
 have hlin:=rS (m:=m) (l:=l) (by rw[hl0,am hzl,←hls];exact List.getElem_mem _)
 refine aj ((cY (c:=(0:Int)≤(z:Int)∧(z:Int)<((ls.length:Nat):Int)) (v:=.c (.pt 901 (0+((z:Nat):Int).toNat) 0)) O Z Z ⟨by omega,by omega⟩).cast (v':=.c (.pt 901 z 0)) (by rw[Int.toNat_natCast,Nat.zero_add])) Z (aj (dc O (ex:=[dV l]) Z Z Z Z (by rw[List.getElem?_map,List.getElem?_eq_getElem hzl,hl0,am hzl];rfl) Z) Z ?_)
 refine js Z (jf [11,52,4,49,50,51] Z (aZ (js Z ?_)))
 first|refine eh Z ?_|refine js Z ?_|refine cf Z Z ?_
 refine jf [56,11,52,4,49,50,51] Z (aI (lJ O Z Z Z Z Z Z Z Z Z (by first|omega|(simp at *;omega)) (by first|omega|(simp at *;omega)) (by first|omega|(simp at *;omega)) (by first|omega|(dsimp only;omega)|(simp only[bL]at *;omega)) (by first|omega|(simp at *;omega)) Z Z Z) Z (au ?_))
 refine js Z (jf [12,11,52,4,49,50,51] Z (jn (ah (af (js Z ?_)))))
 first|refine eh Z ?_|refine js Z ?_|refine cf Z Z ?_
 refine js Z (jn (ak ?_))
 have hz:=hi
 refine av (X:=Nat) (fun k=>⟨[(4,cO ctx),(49,.c (.rs 901 0 ls.length)),(50,eI ls.length),(51,eI z),(12,.c (.rs 902 0 ctx.length)),(58,bD l),(59,eI l.length),(60,eI k)],[(901,.row false 1 ((ls).map (fun l:List Int=>[dV l]))),(902,eA (el ctx.length (l.take k)))]⟩) (fun k=>k≤l.length) (fun k=>l.length-k) 0 (((ap [901,57] (e':=[(4,_),(49,_),(50,_),(51,_),(12,_),(58,_),(59,_),(60,_)]) Z Z ⟨Z,Z,Z,Z,Z,Z,Z,Z,aq⟩ Z).trans (ax 57 902 Z Z)).trans (Ent.to ⟨Z,Z,Z,Z,Z,Z,Z,Z,aq⟩ (by simp only[List.take_zero,el,List.foldl_nil,eA,List.map_replicate];rfl))) ?_ (fun k hi=>?_)
 exact fg _
 refine af (js Z (jn (ah (ar Z (fun z61=>?_) (fun z61=>?_)))))
 refine al (ah (ak (af ?_)))
 have hkl:k<l.length:=by have:=cN z61;omega
 have hlk:=hlin.2 (l.getD k default) (by rw[am hkl];exact List.getElem_mem _)
 refine aj (bi O Z Z Z Z Z Z Z Z (gG hkl)) Z (ac Z (jf [14,61,4,49,50,51,12,58,59,60] Z (jn (ag (ac Z (aj ((cY (c:=(0:Int)≤l.getD k default∧l.getD k default<((ctx.length:Nat):Int)) (v:=.c (.pt 902 (0+(l.getD k default).toNat) 0)) O Z Z ⟨by omega,by omega⟩).cast (v':=.c (.pt 902 (l.getD k default).toNat 0)) (by rw[Nat.zero_add])) Z (jf [66,61,4,49,50,51,12,58,59,60] Z (aI (fR (ex:=[.int .i64 ((el ctx.length (l.take k)).getD (l.getD k default).toNat default)]) (xs':=(el ctx.length (l.take (k+1))).map (fun n:Int=>[D.int .i64 n])) O Z Z Z Z Z Z Z Z Z Z Z Z Z Z (rf (by rw[jE];omega)) (by rw[pj hkl,List.map_set];rfl)) Z (au ?_)))))))))
 refine au ?_
 refine jn (ag ?_)
 first|refine ji Z ?_|refine cf Z Z ?_
 refine js Z (jn ?_)
 refine⟨k+1,(ap [901,902] (e':=[(4,_),(49,_),(50,_),(51,_),(12,_),(58,_),(59,_),(60,_)]) Z Z ⟨Z,Z,Z,Z,Z,Z,Z,Z,aq⟩ Z).trans (Ent.to ⟨Z,Z,Z,Z,Z,Z,Z,Z,aq⟩ Z),by omega,by omega⟩
 refine bg (af ?_)
 have hkk:k=l.length:=by have:=de z61;omega
 subst hkk
 obtain⟨ms,hms⟩: ∃ms,ms=el ctx.length l:=⟨_,rfl⟩
 rw[List.take_length,←hms]
 have hmn:ms.all dT=true:=by rw[hms];exact qY
 refine aA (Ent.freeze 902 (e':=[(4,_),(49,_),(50,_),(51,_),(12,_)]) Z (.cons Z (.keep Z) (.cons Z (.keep Z) (.cons Z (.keep Z) (.cons Z (.keep Z) (.cons Z (.c (.row Z (by rw[hms,cj,jE]))) .nil))))) (eT Z (.skip .nil))) ?_
 refine ac Z (bE Z (uO (ctx:=ctx) (ms:=ms) h1 h2 hco hmn) 71000 Z (jf [70,4,49,50,51,12] Z (jn (ar Z (fun z70=>?_) (fun z70=>?_)))))
 refine af (ac Z (jf [72,70,4,49,50,51,12] Z (aI (aP O Z Z Z Z Z Z Z Z Z Z Z) Z (au ?_))))
 refine aA (Ent.rowLe 73 Z (.cons (ga (ga (ga (.cons (.nil (sz:=1)) (.cons .refl .nil))))) .nil)) (au ?_)
 refine au ?_
 refine ac Z (jf [3,2,70,4,49,50,51,12] Z (jr ?_))
 refine aC Z ?_
 have hyes:gc q=([iI ms],true):=by rw[htr,htc,hz.2,md hzl,if_pos (by rw[←hl0,←hms];exact z70),←hl0,←hms];rfl
 rw[hyes]
 exact .tup (.cons (.c (.whole Z Z)) (.cons (.c .d) .nil))
 refine al (ag ?_)
 first|refine ji Z ?_|refine cf Z Z ?_
 refine js Z (jn ?_)
 refine⟨z+1,(ap [901] (e':=[(4,_),(49,_),(50,_),(51,_)]) Z Z ⟨Z,Z,Z,Z,aq⟩ Z).trans (Ent.to ⟨Z,Z,Z,Z,aq⟩ Z),⟨by omega,?_⟩,by omega⟩
 rw[hz.2,md hzl,if_neg (by rw[←hl0,←hms];exact fun h=>by rw[h]at z70;cases z70)]
 refine bg (af (ac Z (jr ?_)))
 refine aC Z ?_
 have hzz:z=ls.length:=by have:=de z52;omega
 have hno:gc q=([],false):=by rw[htr,htc,hi.2,hzz,List.drop_length];rfl
 rw[hno]
 exact .tup (.cons (.c .nils) (.cons (.c .d) .nil))
end Go.Al
