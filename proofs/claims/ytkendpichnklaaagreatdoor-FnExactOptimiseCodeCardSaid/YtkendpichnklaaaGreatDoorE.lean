/- Texts: plain Lean, numbers and bQ written. -/
import Derived.Lib.ItoaNum
import Derived.Lib.Split
import Derived.Test.YtkendpichnklaaaGreatDoorD
import Derived.Test.YtkendpichnklaaaGreatDoorC
import Derived.Test.YtkendpichnklaaaGreatDoorH
import Derived.Test.YtkendpichnklaaaGreatDoorS
set_option linter.unusedVariables false
set_option linter.unusedSimpArgs false
set_option maxRecDepth 10000
set_option maxHeartbeats 4000000
open Go.Proofs
/- Terms as texts, in plain Lean: what is written, what is read, and that a written term is read back. -/
namespace Go.Al
variable{L:Nat}(h1:4096≤L)(h2:L≤1073741824)
open Go.Lib
abbrev cJ:=List UInt8
def tW(i:Nat):UInt8:=UInt8.ofNat (97+i)
def ft(out:cJ)(n:Int):cJ:=if n<0 then[45]else if out=[]then[]else[43]
def tC(out:cJ)(i:Nat)(c:Int):cJ:=if c=0 then out else out++ft out c++(if c.natAbs=1 then[]else decDigits c.natAbs)++[tW i]
def tX:Nat→List Int→cJ→cJ
  | _,[],out=>out
  | i,c::r,out=>tX (i+1) r (tC out i c)
def tK(out:cJ)(c:Int):cJ:=if c=0 then out else out++ft out c++decDigits c.natAbs
def tZ(out:cJ):cJ:=if out=[]then[48]else out
def yB(c:Int)(xs:List Int):cJ:=tZ (tK (tX 0 xs []) c)

def xk(b:UInt8):Bool:=decide (48≤b.toNat)&&decide (b.toNat≤57)
theorem lL{d:Nat}(h:d<10):(UInt8.ofNat (48+d)).toNat=48+d:=by
 rw[UInt8.toNat_ofNat'];omega
theorem ic{m k:Nat}(h:m<10^(k+1)):nDigits m≤k+1:=by
 induction k generalizing m with
 | zero=>rw[nDigits_small (by simpa using h)];exact cm _
 | succ k ih=>
  by_cases hm:m<10
  rw[nDigits_small hm];omega
  rw[nDigits_big hm]
  have:=ih (m:=m/10) (by rw[Nat.pow_succ]at h;omega)
  omega
theorem gQ(m:Nat): ∀b∈decDigits m,xk b=true:=by
 induction m using Nat.strongRecOn with
 | _ m ih=>
  intro b hb
  rw[decDigits]at hb
  split at hb
  rename_i h
  rw[List.mem_singleton.1 hb];unfold xk;rw[lL h];simp;omega
  rename_i h
  rcases List.mem_append.1 hb with hb|hb
  exact ih (m/10) (by omega) b hb
  rw[List.mem_singleton.1 hb];unfold xk;rw[lL (Nat.mod_lt _ (by decide))];simp;omega
end Go.Al
/- Terms as texts, in plain Lean: the reference's reader. -/
namespace Go.Al
variable{L:Nat}(h1:4096≤L)(h2:L≤1073741824)
open Go.Lib
end Go.Al
/- Sequents as texts, in plain Lean: cutting and splitting; both readers accept just the written sequents. -/
namespace Go.Al
variable{L:Nat}(h1:4096≤L)(h2:L≤1073741824)
open Go.Lib
def spl(c:UInt8):cJ→List cJ
  | []=>[[]]
  | b::r=>if b=c then[]::spl c r else(b::(spl c r).headD [])::(spl c r).tail
theorem pq{c:UInt8}: ∀{p:cJ} (r:cJ),c ∉ p→spl c (p++c::r)=p::spl c r
 | [],r,_=>by rw[List.nil_append,spl,if_pos Z]
 | b::p,r,h=>by
  rw[List.cons_append,spl,if_neg (fun e=>h (by rw[e];exact List.mem_cons_self ..)),pq r (fun hh=>h (List.mem_cons_of_mem _ hh))]
  rfl
def cU(c:UInt8):List cJ→cJ
  | []=>[]
  | p::r=>p++c::cU c r
theorem kA{c:UInt8}: ∀{ps:List cJ},(∀p∈ps,c ∉ p)→spl c (cU c ps)=ps++[[]]
 | [],_=>rfl
 | p::r,h=>by
  rw[cU,pq _ (h p (List.mem_cons_self ..)),kA (fun q hq=>h q (List.mem_cons_of_mem _ hq))];rfl
abbrev bO:cJ:=[61,62]
section
variable{T:Type}(tx:T→cJ)(ok:T→Bool)(rd:cJ→Option T)
variable{tx ok rd}
end
end Go.Al
/- Terms and sequents as texts: what both readers accept. -/
namespace Go.Al
variable{L:Nat}(h1:4096≤L)(h2:L≤1073741824)
open Go.Lib
abbrev tS(t:Tm):cJ:=yB t.c t.xs
theorem pF{n:Int}(h:fN n=true):n.natAbs≤1000000:=by
 have:=xf.1 h;omega
theorem rB{t:Tm}(h:t.ok=true):t.c.natAbs≤1000000∧(∀x∈t.xs,x.natAbs≤1000000)∧t.xs.length≤10:=by
 obtain⟨h1,h2,h3,_⟩:=yy.1 h
 exact⟨pF h1,fun x hx=>pF (List.all_eq_true.1 h2 x hx),h3⟩
theorem iH{m:Nat}(h:m≤1000000):(decDigits m).length≤7:=by
 rw[decDigits_eq,aQ,List.length_range]
 exact ic (k:=6) (by omega)
theorem uz{out:cJ}{i:Nat}{c:Int}(h:c.natAbs≤1000000):(tC out i c).length≤out.length+9:=by
 unfold tC
 split
 omega
 have h1:(ft out c).length≤1:=by
  unfold ft
  split
  simp
  split<;>simp
 have h2:(if c.natAbs=1 then[]else decDigits c.natAbs).length≤7:=by
  split
  simp
  exact iH h
 simp only[cG,sG];omega
theorem ru: ∀{xs:List Int} {i:Nat} {out:cJ},(∀x∈xs,x.natAbs≤1000000)→(tX i xs out).length≤out.length+9*xs.length
 | [],i,out,_=>by simp[tX]
 | c::r,i,out,h=>by
  rw[tX]
  have h1:=ru (i:=i+1) (out:=tC out i c) (fun x hx=>h x (List.mem_cons_of_mem _ hx))
  have h2:=uz (out:=out) (i:=i) (h c (List.mem_cons_self ..))
  simp only[dF];omega
theorem po: ∀(xs:List Int) (i:Nat) (c:Int) (out:cJ),tX i (xs++[c]) out=tC (tX i xs out) (i+xs.length) c
 | [],i,c,out=>by simp[tX]
 | x::r,i,c,out=>by
  rw[List.cons_append,tX,po r,tX,dF,show i+1+r.length=i+(r.length+1) by omega]
theorem ux{out:cJ}{c:Int}(h:c.natAbs≤1000000):(tK out c).length≤out.length+8:=by
 unfold tK
 split
 omega
 have h1:(ft out c).length≤1:=by
  unfold ft
  split
  simp
  split<;>simp
 have h2:=iH h
 simp only[cG];omega
abbrev qV(s:cJ):A:=.c (.d (sD s))
theorem tA{m:Nat}(h:m<100000000000000000000):(Lib.decDigits m).length≤20:=by
 rw[Lib.decDigits_eq,aQ,List.length_range]
 exact ic (k:=19) (by omega)
theorem mY{o:cJ}{n:Int}:(ft o n).length≤1:=by
 unfold ft
 split
 simp
 split<;>simp
theorem iS(a:Nat):Lib.itoa (a:Int)=Lib.decDigits a:=by
 unfold Lib.itoa
 rw[if_neg (by omega),Int.toNat_natCast]
end Go.Al
/- Texts of instructions, proofs and annotated code, in plain Lean: what is written. -/
namespace Go.Al
variable{L:Nat}(h1:4096≤L)(h2:L≤1073741824)
open Go.Lib
theorem pL{n:Int}(h: -1000000000≤n∧n≤1000000000):(itoa n).length≤11:=by
 have key: ∀m:Nat,m≤1000000000→(decDigits m).length≤10:=fun m hm=>by
  rw[decDigits_eq,aQ,List.length_range]
  exact ic (k:=9) (by omega)
 unfold itoa
 split
 have:=key n.natAbs (by omega);rw[dF];omega
 have:=key n.toNat (by omega);omega
structure NdR(x:Nd):Prop where
  kind:x.kind=1∨x.kind=2∨x.kind=3
  fact: -1000000000≤x.fact∧x.fact≤1000000000
  term:x.term.ok=true
  mul: ∀m∈x.mul,-1000000000≤m∧m≤1000000000
def xQ:List cJ:=[[112,117,115,104],[108,111,97,100],[115,116,111,114,101],[97,100,100],[115,99,97,108,101],[106,117,109,112],[116,101,115,116],[103,101,116],[112,117,116],[101,109,105,116],[99,104,101,99,107],[104,97,108,116]]
def jU(op:Int):cJ:=xQ.getD op.toNat []
def sL(op:Int):Bool:=[(0:Int),1,2,4,5,6,9].contains op
def iu(x:In):cJ:=if sL x.op then jU x.op++[32]++itoa x.a else jU x.op
theorem eQ{x:In}(h:aE x=true):(0≤x.op∧x.op≤11)∧(-1000000000≤x.a∧x.a≤1000000000)∧(sL x.op=false→x.a=0):=by
 have hn: ∀{z:Int},fN z=true→ -1000000000≤z∧z≤1000000000:=fun{z} hz=>by have:=xf.1 hz;omega
 have hb: ∀{u v z:Int},cH u v z=true→u≤z∧z≤v:=fun{u v z} hz=>by unfold cH at hz;simpa using hz
 unfold aE at h
 split at h
 rename_i h1
 refine⟨by omega,hn h,fun h2=>?_⟩
 rcases h1 with h1|h1<;>(rw[h1]at h2;exact absurd h2 (by decide))
 split at h
 rename_i h1
 have:=hb h
 refine⟨by omega,by omega,fun h2=>?_⟩
 rcases h1 with h1|h1<;>(rw[h1]at h2;exact absurd h2 (by decide))
 split at h
 rename_i h1
 have:=hb h
 refine⟨by omega,by omega,fun h2=>?_⟩
 rcases h1 with h1|h1<;>(rw[h1]at h2;exact absurd h2 (by decide))
 split at h
 rename_i h1
 have:=hb h
 refine⟨by omega,by omega,fun h2=>?_⟩
 rw[h1]at h2;exact absurd h2 (by decide)
 split at h
 rename_i h1
 have:=bZ h
 exact⟨by omega,by omega,fun _=>this⟩
 cases h
theorem iO{P:Int→Prop}(h: ∀k:Fin 12,P (k.val:Int)){o:Int}(h0:0≤o)(h1:o≤11):P o:=by
 have:=h ⟨o.toNat,by omega⟩
 rwa[show((⟨o.toNat,by omega⟩:Fin 12).val:Int)=o by simp;omega]at this
def dS:cJ:=[112,114,101]
def cL:cJ:=[112,111,115,116]
def sH:cJ:=[97,116]
def eg:cJ:=[112,111,105,110,116]
def cB(w:cJ)(fs:List Tm):List cJ:=fs.map fun t=>w++[32]++tS t
def pY(a:An)(i:Nat):List cJ:=(match a.pts.findIdx? (fun p=>decide (p.k=(i:Int)))with
  | none=>[]
  | some k=>eg::cB sH (a.pts.getD k default).fs)++[iu (a.code.getD i default)]
def cZ(a:An):Nat→List cJ
  | 0=>[]
  | i+1=>cZ a i++pY a i
def gd(a:An):List cJ:=cB dS a.pre++cB cL a.post++cZ a a.code.length
def ga(a:An):cJ:=cU 10 (gd a)
theorem dv(c:UInt8): ∀(p q:List cJ),cU c (p++q)=cU c p++cU c q
 | [],q=>rfl
 | x::p,q=>by rw[List.cons_append,cU,dv c p q,cU];simp
theorem lS{c:UInt8}{B:Nat}: ∀{ls:List cJ},(∀l∈ls,l.length≤B)→(cU c ls).length≤(B+1)*ls.length
 | [],_=>by simp[cU]
 | l::r,h=>by
  have h1:=lS (c:=c) (ls:=r) fun x hx=>h x (List.mem_cons_of_mem _ hx)
  have h2:=h l (List.mem_cons_self ..)
  rw[cU,cG,dF,dF,Nat.mul_add]
  omega
theorem pp{t:Tm}(h:t.term=true):(tS t).length≤45:=by
 unfold Tm.term at h
 simp only[bD,decide_eq_true_eq]at h
 obtain⟨h1,h2,h3⟩:=rB h.1
 have h4:=ru (i:=0) (out:=[]) h2
 have h5:=ux (out:=tX 0 t.xs []) h1
 have h6:=h.2
 unfold tS yB tZ
 split
 decide
 simp only[List.length_nil]at h4;omega
theorem dU{ts:List Tm}{n:Nat}(h:bQ ts n=true):(∀t∈ts,t.term=true)∧ts.length≤n:=by
 unfold bQ at h
 simp only[bD,decide_eq_true_eq,List.all_eq_true]at h
 exact⟨h.1,by omega⟩
theorem oi{w:cJ}{fs:List Tm}(hw:w.length≤4)(h:bQ fs 6=true):(cU 10 (cB w fs)).length≤306:=by
 obtain⟨h1,h2⟩:=dU (n:=6) h
 have h3:=lS (c:=10) (B:=50) (ls:=cB w fs) fun l hl=>by
  unfold cB at hl
  obtain⟨t,ht,rfl⟩:=List.mem_map.1 hl
  have:=pp (h1 t ht)
  simp only[cG,sG];omega
 unfold cB at h3
 rw[aQ]at h3
 unfold cB
 omega
theorem pE{o:Int}(h0:0≤o)(h1:o≤11):(jU o).length≤5:=iO (P:=fun o=>(jU o).length≤5) (by decide) h0 h1
theorem pH{x:In}(h:aE x=true):(iu x).length≤17:=by
 obtain⟨⟨h0,h1⟩,h2,_⟩:=eQ h
 have h3:=pE h0 h1
 have h4:=pL h2
 unfold iu
 split
 simp only[cG,sG];omega
 omega
theorem kh{a:An}(h:bB a=true):(∀i,i<a.code.length→aE (a.code.getD i default)=true)∧a.code.length≤80∧1≤a.code.length∧bQ a.pre 6=true∧bQ a.post 6=true∧a.pts.length≤8∧∀k,k<a.pts.length→bQ (a.pts.getD k default).fs 6=true:=by
 unfold bB dE at h
 simp only[bD,decide_eq_true_eq,List.all_eq_true]at h
 obtain⟨⟨h1,h2⟩,h3,h4,h5,h6⟩:=h
 unfold cH at h2
 simp only[bD,decide_eq_true_eq]at h2
 refine⟨fun i hi=>by rw[au hi];exact h1 _ (List.getElem_mem hi),by omega,by omega,h3,h4,h5,fun k hk=>?_⟩
 unfold n3 at h6
 have:=List.all_eq_true.1 h6 k (List.mem_range.2 hk)
 unfold nW at this
 simp only[bD]at this
 exact this.1.2
theorem tJ{a:An}(h:bB a=true){i:Nat}(hi:i<a.code.length):(cU 10 (pY a i)).length≤330:=by
 obtain⟨h1,_,_,_,_,_,h7⟩:=kh h
 have h2:=pH (h1 i hi)
 unfold pY
 rw[dv,cG]
 have h8:(cU 10 [iu (a.code.getD i default)]).length≤18:=by
  simp only[cU,cG,dF,List.length_nil];omega
 cases hk:a.pts.findIdx? (fun p=>decide (p.k=(i:Int)))with
 | none=>show 0+_≤330;omega
 | some k=>
  have hkl:k<a.pts.length:=by
   have:=List.findIdx?_eq_some_iff_findIdx_eq.1 hk
   omega
  have h9:=oi (w:=sH) (by decide) (h7 k hkl)
  show(eg++10::cU 10 (cB sH (a.pts.getD k default).fs)).length+_≤330
  rw[cG,dF]
  have:eg.length=5:=rfl
  omega
theorem nB{a:An}(h:bB a=true): ∀{n:Nat},n≤a.code.length→(cU 10 (cZ a n)).length≤330*n
 | 0,_=>by simp[cZ,cU]
 | n+1,hn=>by
  have h1:=nB h (n:=n) (by omega)
  have h2:=tJ h (i:=n) (by omega)
  rw[cZ,dv,cG]
  omega
theorem qd{a:An}(h:bB a=true):(ga a).length≤30000:=by
 obtain⟨_,h1,_,h3,h4,_,_⟩:=kh h
 have q1:=oi (w:=dS) (by decide) h3
 have q2:=oi (w:=cL) (by decide) h4
 have q3:=nB h (n:=a.code.length) (cm _)
 unfold ga gd
 rw[dv,dv,cG,cG]
 omega
end Go.Al
/- The bytes of a package, in plain Lean. -/
namespace Go.Al
variable{L:Nat}(h1:4096≤L)(h2:L≤1073741824)
open Go.Lib
structure Pk where
  nm:cJ
  an:An
  pf:List (List Nd)
end Go.Al
/- What functions of Go's library answer, as contracts of the abstract logic. -/
namespace Go.Al
variable{L:Nat}(h1:4096≤L)(h2:L≤1073741824)
theorem oH{w:World}{k:Nat}{os:Array Obj}:Frame w (Go.Sort.grow (w.drewN k) os) []:=by
 refine⟨Z,Z,Z,?_,fun b hb _=>?_⟩
 show w.heap.size≤(w.heap++os).size
 rw[Array.size_append];omega
 show(w.heap++os)[b]? = w.heap[b]?
 exact Array.getElem?_append_left hb
theorem rO{P:Program}{L f:Nat}{args:List A}{v:A}(hc:fJ P f)
    (h: ∀(w:World) (ok:Nat→Prop) (m:Nat→Loc) (vs:List Value),GOk P w ok→RAs L w ok m args vs→Calls P f vs.toArray w (mL fun x w'=>Frame w w' []∧∀ok' m',(∀b,w.heap.size≤b→ok' b)→RA L w' ok' m' v x)):MC P L f args [] (Plain v):=by
 refine⟨hc,fun w m F ok vs h0 h1 h2 h3 h4 h5=>?_⟩
 cases h1
 refine Calls.mono (h w ok m vs h0 h5) fun e w' he=>?_
 cases e with
 | returned x=>
  obtain⟨hf,hx⟩:=he
  exact⟨v,[],m,[],⟨Z,Z⟩,.nil,List.nodup_nil,(by simp),hx _ _ (fun b hb=>⟨by simp,.inr (.inl hb)⟩),hf,fun _ _ _=>rfl,h4⟩
 | _=>exact he
theorem jQ{L w ok m}{k:IntKind}{n:Int}{x:Value}(h:RA L w ok m (.c (.d (.int k n))) x):x= .int k n:=by
 cases h with|c h=>cases h with|d h=>cases h with|int h1 h2=>rfl
theorem GOk.tab{P:Program}{w:World}{ok:Nat→Prop}(h:GOk P w ok){g:Nat}(hg:P.globalNamed "internal/strconv.uint64pow10" = some g):Lib.TabIs P w "internal/strconv.uint64pow10" .u64 Lib.pow10Tab:=by
 obtain⟨_,cs,h1,h2⟩:=h "internal/strconv.uint64pow10" g (by simp[GN]) hg
 rw[GF.tab h2 Z]at h1
 exact h1
variable{n:Int}
theorem wI(hn0: -9223372036854775808≤n)(hn1:n≤9223372036854775807):MQ h1 h2 114 [eI n,eI 10] [] (Plain (qV (Lib.itoa n))):=by
 refine rO ⟨_,_,Tryz.func114,by kernel_rfl,Z⟩ fun w ok m vs h0 h5=>?_
 cases h5 with
 | cons a1 a2=>cases a2 with
  | cons a3 a4=>
   cases a4
   rw[jQ a1,jQ a3]
   refine Calls.mono (Tryz.strconv_FormatInt_10 n hn0 hn1 w (h0.tab (g:=0) (by kernel_rfl))) fun e w' ⟨he,k,os,hw⟩=>?_
   subst he hw
   refine⟨oH,fun ok' m' _=>.c (.d (.str ?_))⟩
   show(bS (Lib.itoa n)).size≤L
   rw[fU]
   have hd: ∀m:Nat,m≤9223372036854775808→(Lib.decDigits m).length≤20:=fun m hm=>tA (by omega)
   unfold Lib.itoa
   split
   ·
    have:=hd n.natAbs (by omega);rw[dF];omega
   ·
    have:=hd n.toNat (by omega);omega
theorem wY(s:cJ):(bS s).data.toList=s:=by simp[bS]
abbrev qX(ss:List cJ):D:=.slc 1 (ss.map fun p=>[sD p])
theorem rk(hn0: -9223372036854775808≤n)(hn1:n≤9223372036854775807):MQ h1 h2 90 [eI n] [] (Plain (qV (Lib.itoa n))):=by
 refine av ?_ Z
 refine jB 5 h1 h2 Tryz.func90 Z fun O hF=>?_
 refine af (js Z (bm (js Z (jf [3,2] Z (ba Z (wI (n:=n) h1 h2 hn0 hn1) 5000 Z (js Z (jf [2] Z (jr ?_))))))))
 refine aD Z ?_
 rfl
theorem ud{o:cJ}(ho:o.length≤1000):MQ h1 h2 88 [eI n,.c (.pt 0 0 0)] [(0,.box [.d (sD o)])] (fA (.tup []) [(0,.box [.d (sD (o++ft o n))])]):=by
 refine jH 11 [0] h1 h2 Tryz.func88 Z fun O hF=>?_
 refine af (ag Z (jf [4,1] Z (jn (ao Z (fun z4=>?_) (fun z4=>?_)))))
 refine ab (js Z (ak (cO (p:=o) (q:=[45]) O Z Z Z Z Z Z (by show o.length+1≤L;omega) (by show L≤_;omega)) Z (jf [6,1] Z (jo Z (aA ?_)))))
 refine jn ?_
 show _∧_
 refine⟨.inr Z,_,bt,_,Z,Z,?_⟩
 rw[show ft o n=[45] by unfold ft;rw[if_pos (bZ z4)]]
 refine af (js Z (ak (tQ (p:=o) (q:=[]) O Z Z Z Z Z Z) Z (jf [8,1] Z (jn (ao Z (fun z8=>?_) (fun z8=>?_))))))
 refine ab (js Z (ak (cO (p:=o) (q:=[43]) O Z Z Z Z Z Z (by show o.length+1≤L;omega) (by show L≤_;omega)) Z (jf [10,1] Z (jo Z (aA ?_)))))
 refine jn ?_
 show _∧_
 refine⟨.inr Z,_,bt,_,Z,Z,?_⟩
 rw[show ft o n=[43] by unfold ft;rw[if_neg (cS z4),if_neg (by simpa using z8)]]
 refine ac ?_
 show _∧_
 refine⟨.inr Z,_,bt,_,Z,Z,?_⟩
 rw[show ft o n=[] by unfold ft;rw[if_neg (cS z4),if_pos (by simpa using z8)],List.append_nil]
end Go.Al
