/- Annotated code: what is valid, how it is folded. -/
import Derived.Test.YtkendpichnklaaaGreatDoorD
import Derived.Test.YtkendpichnklaaaGreatDoorC
set_option linter.unusedVariables false
set_option linter.unusedSimpArgs false
set_option maxRecDepth 10000
set_option maxHeartbeats 4000000
open Go.Proofs
namespace Go.Al
variable{L:Nat}(h1:4096≤L)(h2:L≤1073741824)
structure In where
  op:Int
  a:Int
  deriving Inhabited,DecidableEq
abbrev In.cells(x:In):List D:=[.int .i64 x.op,.int .i64 x.a]
abbrev c7(c:List In):D:=.slc 2 (c.map In.cells)
abbrev cn(c:List In):A:=.c (.d (c7 c))
abbrev cQ(c:List In):B:=.row true 2 (c.map In.cells)
structure Pt where
  k:Int
  fs:List Tm
  deriving Inhabited,DecidableEq
abbrev Pt.cells(p:Pt):List D:=[.int .i64 p.k,oV p.fs]
abbrev ix(ps:List Pt):D:=.slc 2 (ps.map Pt.cells)
abbrev lY(ps:List Pt):A:=.c (.d (ix ps))
abbrev cK(ps:List Pt):B:=.row true 2 (ps.map Pt.cells)
def Pt.size(p:Pt):Nat:=szs Tm.size p.fs
structure An where
  pre:List Tm
  post:List Tm
  code:List In
  pts:List Pt
  deriving Inhabited,DecidableEq
abbrev An.data(a:An):List D:=[oV a.pre,oV a.post,c7 a.code,ix a.pts]
abbrev aAn(a:An):A:=.agg (a.data.map .d)
def An.size(a:An):Nat:=szs Tm.size a.pre+szs Tm.size a.post+a.code.length+szs Pt.size a.pts
abbrev nX:Int→In→In:=fun k _=>⟨k,k+1⟩
abbrev fg:In→Nat:=fun _=>2
abbrev mP:Int→Pt→Pt:=fun k p=>⟨k,bn mT nT (k+1) p.fs⟩
abbrev nP:Pt→Nat:=fun p=>1+bv nT p.fs
def aE(x:In):Bool:=
  if x.op=0∨x.op=4 then fN x.a else if x.op=1∨x.op=2 then cH 0 3 x.a else if x.op=5∨x.op=6 then cH 0 79 x.a else if x.op=9 then cH 0 3 x.a
  else if x.op=3∨x.op=7∨x.op=8∨x.op=10∨x.op=11 then decide (x.a=0)else false
def dE(c:List In):Bool:=c.all aE&&cH 1 80 c.length
def nW(n:Nat)(ps:List Pt)(i:Nat):Bool:=cH 0 ((n:Int)-1) (ps.getD i default).k&&bQ (ps.getD i default).fs 6&& !(decide (0<i)&&decide ((ps.getD i default).k≤(ps.getD (i-1) default).k))
def n3(n:Nat)(ps:List Pt):Bool:=(List.range ps.length).all (nW n ps)
def bB(a:An):Bool:=dE a.code&&(bQ a.pre 6&&(bQ a.post 6&&(decide (a.pts.length≤8)&&n3 a.code.length a.pts)))
theorem pC{n:Nat}{ps:List Pt}(h: ∀j,j<ps.length→nW n ps j=true):n3 n ps=true:=List.all_eq_true.2 fun j hj=>h j (List.mem_range.1 hj)
theorem m6{n:Nat}{ps:List Pt}(j:Nat)(hj:j<ps.length)(h:nW n ps j=false):n3 n ps=false:=by
 cases e:n3 n ps with
 | false=>rfl
 | true=>have:=List.all_eq_true.1 e j (List.mem_range.2 hj);rw[h]at this;cases this
def bI(x:In):Bool:=decide (x.op=5)||decide (x.op=6)
def cT(ps:List Pt)(k:Int):Bool:=ps.any fun p=>decide (p.k=k)
def fC(c:List In)(k:Int):Bool:=c.any fun x=>bI x&&decide (x.a=k)
def f8(c:List In)(ps:List Pt)(k:Int):Bool:=fC c k||cT ps k
def gL(pl:Int→Bool):Nat→List In→List In
  | _,[]=>[]
  | k,x::r=>if pl (k:Int)=true then[]else x::gL pl (k+1) r
def dA(c:List In)(ps:List Pt)(k:Nat):List In:=match c.drop k with
  | []=>[]
  | x::r=>x::gL (f8 c ps) (k+1) r
def bf:List Int→List In→Bool
  | [],_=>true
  | _::_,[]=>false
  | o::os,x::s=>decide (x.op=o)&&bf os s
def bi(x:In):Bool:=decide (x.op=1)||decide (x.op=3)||decide (x.op=7)
def eM(s:List In):Nat×List In:=
  let x:=s.getD 0 default
  let y:=s.getD 1 default
  if bf [0,4] s=true∧fN (x.a*y.a)=true then(2,[⟨0,x.a*y.a⟩])
  else if bf [0,0,3] s=true∧fN (x.a+y.a)=true then(3,[⟨0,x.a+y.a⟩])
  else if bf [0,1,3] s=true∧x.a=0 then(3,[y])
  else if bf [0,1,4,3] s=true∧x.a=0 then(4,[y,s.getD 2 default])
  else if(bi x=true∨x.op=4)∧bf [x.op,0,3] s=true∧y.a=0 then(3,[x])
  else if bi x=true∧bf [x.op,4] s=true∧y.a=1 then(2,[x])
  else if bf [4,4] s=true∧fN (x.a*y.a)=true then(2,[⟨4,x.a*y.a⟩])
  else(0,[])
def fu(k less:Int)(x:In):In:=if bI x=true∧k<x.a then⟨x.op,x.a-less⟩else x
def lp(k less:Int)(p:Pt):Pt:=if k<p.k then⟨p.k-less,p.fs⟩else p
def bU(a:An)(k n:Nat)(by':List In):An:=
  ⟨a.pre,a.post,(a.code.take k++by'++a.code.drop (k+n)).map (fu k ((n:Int)-by'.length)),a.pts.map (lp k ((n:Int)-by'.length))⟩
abbrev az(a:An)(k:Nat):Nat×List In:=eM (dA a.code a.pts k)
def jA(a:An):Nat→Nat→Option An
  | 0,_=>none
  | f+1,k=>if 0<(az a k).1 then some (bU a k (az a k).1 (az a k).2)else jA a f (k+1)
def cD(a:An):Option An:=jA a a.code.length 0
def dD:Nat→An→An
  | 0,a=>a
  | f + 1,a=>match cD a with
    | none=>a
    | some b=>dD f b
def bT(a:An):An:=dD a.code.length a
structure AOk(a:An):Prop where
  code: ∀x∈a.code,aE x=true
  pts: ∀p∈a.pts,0≤p.k∧p.k≤79
  len:a.code.length≤80
  np:a.pts.length≤8
  npre:a.pre.length≤6
  npost:a.post.length≤6
theorem lC{ts:List Tm}{n:Nat}(h:bQ ts n=true):ts.length≤n:=by
 simp only[bQ,bD,decide_eq_true_eq]at h;omega
theorem eF{a:An}(h:bB a=true):AOk a:=by
 simp only[bB,dE,cH,bD,decide_eq_true_eq]at h
 obtain⟨⟨h1,h2,h3⟩,h4,h5,h6,h7⟩:=h
 refine⟨List.all_eq_true.1 h1,fun p hp=>?_,by omega,h6,lC (n:=6) h4,lC (n:=6) h5⟩
 obtain⟨i,hi,rfl⟩:=List.getElem_of_mem hp
 have:=List.all_eq_true.1 h7 i (List.mem_range.2 hi)
 simp only[nW,cH,bD,decide_eq_true_eq,au hi]at this
 omega
theorem mZ{pl:Int→Bool}: ∀{l:List In} {k:Nat},∃n,gL pl k l=l.take n∧∀i,i<n→i<l.length→pl ((k+i:Nat):Int)=false
 | [],k=>⟨0,by simp[gL],fun i h _=>absurd h (Nat.not_lt_zero i)⟩
 | x :: r,k=>by
  by_cases h:pl (k:Int)=true
  exact⟨0,by simp[gL,h],fun i h _=>absurd h (Nat.not_lt_zero i)⟩
  obtain⟨n,e,hn⟩:=mZ (pl:=pl) (l:=r) (k:=k+1)
  refine⟨n+1,by simp[gL,h,e],fun i hi hl=>?_⟩
  cases i with
  | zero=>simpa using h
  | succ i=>
   have:=hn i (by omega) (by simpa using hl)
   rwa[show k+(i+1)=k+1+i by omega]
theorem j8{c:List In}{ps:List Pt}{k:Nat}(hk:k<c.length): ∃n,dA c ps k=(c.drop k).take (n+1)∧∀i,0<i→i<n+1→k+i<c.length→f8 c ps ((k+i:Nat):Int)=false:=by
 obtain⟨n,e,h⟩:=mZ (pl:=f8 c ps) (l:=c.drop (k+1)) (k:=k+1)
 refine⟨n,?_,fun i h0 hi hl=>?_⟩
 rw[dA,List.drop_eq_getElem_cons hk]
 show c[k]::gL (f8 c ps) (k+1) (c.drop (k+1))=c[k]::(c.drop (k+1)).take n
 rw[e]
 have:=h (i-1) (by omega) (by rw[List.length_drop];omega)
 rwa[show k+1+(i-1)=k+i by omega]at this
theorem mb{c:List In}{ps:List Pt}{k:Nat}(hk:k<c.length):0<(dA c ps k).length:=by
 rw[dA,List.drop_eq_getElem_cons hk];exact Nat.zero_lt_succ _
theorem fQ{c:List In}{ps:List Pt}{k:Nat}:(dA c ps k).length≤c.length-k:=by
 rcases Nat.lt_or_ge k c.length with h|h
 obtain⟨n,e,_⟩:=j8 (ps:=ps) h
 rw[e,List.length_take,List.length_drop];omega
 rw[dA,List.drop_of_length_le h];exact co _
theorem dW{c:List In}{ps:List Pt}{k i:Nat}(hi:i<(dA c ps k).length):(dA c ps k).getD i default=c.getD (k+i) default:=by
 have h1:=fQ (c:=c) (ps:=ps) (k:=k)
 have hk:k<c.length:=by omega
 obtain⟨n,e,_⟩:=j8 (ps:=ps) hk
 rw[e]at hi ⊢
 rw[List.length_take,List.length_drop]at hi
 rw[au (by rw[List.length_take,List.length_drop];omega),au (by omega),List.getElem_take,List.getElem_drop]
theorem qe{c:List In}{ps:List Pt}{k i:Nat}(h0:0<i)(hi:i<(dA c ps k).length):f8 c ps ((k+i:Nat):Int)=false:=by
 have h1:=fQ (c:=c) (ps:=ps) (k:=k)
 have hk:k<c.length:=by omega
 obtain⟨n,e,h⟩:=j8 (ps:=ps) hk
 rw[e,List.length_take,List.length_drop]at hi
 exact h i h0 (by omega) (by omega)
theorem bG: ∀{os:List Int} {s:List In},bf os s=true→os.length≤s.length
 | [],_,_=>co _
 | _::_,[],h=>by cases h
 | o::os,x::s,h=>by
  simp only[bf,bD]at h
  have:=bG h.2
  simp only[dF];omega
theorem fG: ∀{os:List Int} {s:List In},bf os s=true→∀i,i<os.length→(s.getD i default).op=os.getD i default
 | [],_,_,i,h=>absurd h (Nat.not_lt_zero i)
 | _::_,[],h,_,_=>by cases h
 | o::os,x::s,h,i,hi=>by
  simp only[bf,bD,decide_eq_true_eq]at h
  cases i with
  | zero=>simpa using h.1
  | succ i=>simpa using fG h.2 i (by simpa using hi)
structure RuOk(s:List In)(r:Nat×List In):Prop where
  n:r.1≤s.length
  lt:r.2.length<r.1
  one:1≤r.2.length
  two:r.2.length≤2
  jmp: ∀x∈r.2,bI x=false
  ok:(∀x∈s,aE x=true)→∀x∈r.2,aE x=true
theorem m9{x:In}(h:bi x=true):bI x=false:=by
 simp only[bi,Bool.or_eq_true,decide_eq_true_eq]at h
 simp only[bI,Bool.or_eq_false_iff,decide_eq_false_iff_not];omega
theorem bW{s:List In}{i:Nat}(h:i<s.length):s.getD i default∈s:=by rw[au h];exact List.getElem_mem h
theorem nj{x:In}{o:Int}(h:x.op=o)(h5:o≠5)(h6:o≠6):bI x=false:=by
 simp only[bI,Bool.or_eq_false_iff,decide_eq_false_iff_not,h];exact⟨h5,h6⟩
theorem jq{o a:Int}(h:o=0∨o=4)(hn:fN a=true):aE ⟨o,a⟩=true:=by
 unfold aE;rw[if_pos h];exact hn
theorem cN{s:List In}(h:0<(eM s).1):RuOk s (eM s):=by
 unfold eM at h ⊢
 simp only at h ⊢
 split at h
 rename_i c;have l:=bG c.1;rw[if_pos c]
 exact⟨l,by simp,by simp,by simp,by simp[bI],fun _ x hx=>by simp at hx;subst hx;exact jq (.inl rfl) c.2⟩
 rename_i kc1;rw[if_neg kc1]
 split at h
 rename_i c;have l:=bG c.1;rw[if_pos c]
 exact⟨l,by simp,by simp,by simp,by simp[bI],fun _ x hx=>by simp at hx;subst hx;exact jq (.inl rfl) c.2⟩
 rename_i kc2;rw[if_neg kc2]
 split at h
 rename_i c;have l:=bG c.1;rw[if_pos c]
 have g:=fG c.1 1 (by decide)
 exact⟨l,by simp,by simp,by simp,fun x hx=>by simp only[List.mem_singleton]at hx;subst hx;exact nj g (by decide) (by decide),fun hs x hx=>by simp only[List.mem_singleton]at hx;subst hx;exact hs _ (bW (Nat.lt_of_lt_of_le (by decide) l))⟩
 rename_i kc3;rw[if_neg kc3]
 split at h
 rename_i c;have l:=bG c.1;rw[if_pos c]
 have g:=fG c.1 1 (by decide);have g2:=fG c.1 2 (by decide)
 refine⟨l,by simp,by simp,by simp,fun x hx=>?_,fun hs x hx=>?_⟩
 simp only[List.mem_cons,List.not_mem_nil,or_false]at hx
 rcases hx with hx|hx
 subst hx;exact nj g (by decide) (by decide)
 subst hx;exact nj g2 (by decide) (by decide)
 simp only[List.mem_cons,List.not_mem_nil,or_false]at hx
 rcases hx with hx|hx
 subst hx;exact hs _ (bW (Nat.lt_of_lt_of_le (by decide) l))
 subst hx;exact hs _ (bW (Nat.lt_of_lt_of_le (by decide) l))
 rename_i kc4;rw[if_neg kc4]
 split at h
 rename_i c;have l:=bG c.2.1;rw[if_pos c]
 refine⟨l,by simp,by simp,by simp,fun x hx=>?_,fun hs x hx=>?_⟩
 simp only[List.mem_singleton]at hx;subst hx
 rcases c.1 with h|h
 exact m9 h
 exact nj h (by decide) (by decide)
 simp only[List.mem_singleton]at hx;subst hx
 exact hs _ (bW (Nat.lt_of_lt_of_le (Nat.zero_lt_succ _) l))
 rename_i kc5;rw[if_neg kc5]
 split at h
 rename_i c;have l:=bG c.2.1;rw[if_pos c]
 refine⟨l,by simp,by simp,by simp,fun x hx=>?_,fun hs x hx=>?_⟩
 simp only[List.mem_singleton]at hx;subst hx;exact m9 c.1
 simp only[List.mem_singleton]at hx;subst hx
 exact hs _ (bW (Nat.lt_of_lt_of_le (Nat.zero_lt_succ _) l))
 rename_i kc6;rw[if_neg kc6]
 split at h
 rename_i c;have l:=bG c.1;rw[if_pos c]
 exact⟨l,by simp,by simp,by simp,by simp[bI],fun _ x hx=>by simp at hx;subst hx;exact jq (.inr rfl) c.2⟩
 exact absurd h (by decide)
theorem rZ{a:An}{k n:Nat}{b:List In}(h:k+n≤a.code.length):(bU a k n b).code.length+n=a.code.length+b.length:=by
 simp only[bU,aQ,cG,List.length_take,List.length_drop];omega
theorem fT{a:An}{k:Nat}(h:0<(az a k).1):k+(az a k).1≤a.code.length:=by
 have h1:(az a k).1≤(dA a.code a.pts k).length:=(cN h).n
 have h2:=fQ (c:=a.code) (ps:=a.pts) (k:=k)
 have h3:0<(az a k).1:=h
 omega
theorem me{a:An}{k:Nat}(h:0<(az a k).1):(bU a k (az a k).1 (az a k).2).code.length<a.code.length:=by
 have h1:=rZ (b:=(az a k).2) (fT h)
 have h2:(az a k).2.length<(az a k).1:=(cN h).lt
 omega
theorem c9{a b:An}: ∀{f k:Nat},jA a f k=some b→∃j,k≤j∧j<k+f∧0<(az a j).1∧b=bU a j (az a j).1 (az a j).2∧∀i,k≤i→i<j→(az a i).1=0
 | 0,k,h=>by cases h
 | f+1,k,h=>by
  rw[jA]at h
  split at h
  rename_i h0
  simp only[el]at h
  exact⟨k,cm _,by omega,h0,h.symm,fun i h1 h2=>by omega⟩
  rename_i h0
  obtain⟨j,h1,h2,h3,h4,h5⟩:=c9 h
  refine⟨j,by omega,by omega,h3,h4,fun i hi hj=>?_⟩
  rcases Nat.eq_or_lt_of_le hi with e|e
  subst e;omega
  exact h5 i e hj
theorem kN{a:An}: ∀{f k:Nat},(∀i,k≤i→i<k+f→(az a i).1=0)→jA a f k=none
 | 0,k,_=>rfl
 | f+1,k,h=>by
  rw[jA,if_neg (by rw[h k (cm _) (by omega)];decide)]
  exact kN fun i h1 h2=>h i (by omega) (by omega)
theorem mW{a:An}{j:Nat}(h:0<(az a j).1): ∀{f k:Nat},k≤j→j<k+f→(∀i,k≤i→i<j→(az a i).1=0)→jA a f k=some (bU a j (az a j).1 (az a j).2)
 | 0,k,h1,h2,_=>by omega
 | f+1,k,h1,h2,h3=>by
  rw[jA]
  rcases Nat.eq_or_lt_of_le h1 with e|e
  subst e;rw[if_pos h]
  rw[if_neg (by rw[h3 k (cm _) e];decide)]
  exact mW h (by omega) (by omega) fun i h4 h5=>h3 i (by omega) h5
theorem iU{a b:An}(h:cD a=some b):b.code.length<a.code.length:=by
 obtain⟨j,_,_,h3,h4,_⟩:=c9 h
 subst h4;exact me h3
theorem nk: ∀{f g:Nat} {a:An},a.code.length≤f→a.code.length≤g→dD f a=dD g a
 | 0,0,a,_,_=>rfl
 | 0,g+1,a,h,_=>by
  have:cD a=none:=by rw[cD,Nat.le_zero.1 h];rfl
  show a=(match cD a with|none=>a|some b=>dD g b)
  rw[this]
 | f+1,0,a,_,h=>by
  have:cD a=none:=by rw[cD,Nat.le_zero.1 h];rfl
  show(match cD a with|none=>a|some b=>dD f b)=a
  rw[this]
 | f + 1,g+1,a,h1,h2=>by
  rw[dD,dD]
  cases e:cD a with
  | none=>rfl
  | some b=>
   have:=iU e
   exact nk (by omega) (by omega)
theorem ik{a b:An}(h:cD a=some b):bT a=bT b:=by
 have h1:=iU h
 show dD a.code.length a=dD b.code.length b
 obtain⟨n,e⟩: ∃n,a.code.length=n+1:=⟨a.code.length-1,by omega⟩
 rw[e,dD,h]
 exact nk (by omega) (cm _)
theorem il{a:An}(h:cD a=none):bT a=a:=by
 show dD a.code.length a=a
 cases e:a.code.length with
 | zero=>rfl
 | succ n=>rw[dD,h]
theorem pw{k l:Int}{x:In}(h0:0≤k)(hl0:0≤l)(hx:aE x=true)(hp:bI x=true→k<x.a→k+l≤x.a):aE (fu k l x)=true:=by
 unfold fu
 split
 rename_i c
 have hj:=c.1
 have h2:=hp c.1 c.2
 simp only[bI,Bool.or_eq_true,decide_eq_true_eq]at hj
 unfold aE at hx ⊢
 simp only at hx ⊢
 rw[if_neg (by omega),if_neg (by omega),if_pos hj]at hx ⊢
 simp only[cH,bD,decide_eq_true_eq]at hx ⊢
 omega
 exact hx
theorem nf{c:List In}{x:In}(h:x∈c)(hj:bI x=true):fC c x.a=true:=List.any_eq_true.2 ⟨x,h,by rw[hj];simp⟩
theorem j9{ps:List Pt}{p:Pt}(h:p∈ps):cT ps p.k=true:=List.any_eq_true.2 ⟨p,h,by simp⟩
theorem hZ{a:An}{k:Nat}(h:0<(az a k).1){z:Int}(hz:f8 a.code a.pts z=true):z≤k∨((k+(az a k).1:Nat):Int)≤z:=by
 have h1:(az a k).1≤(dA a.code a.pts k).length:=(cN h).n
 rcases Int.lt_or_le (k:Int) z with h2|h2
 right
 rcases Int.lt_or_le z ((k+(az a k).1:Nat):Int)with h3|h3
 have:=qe (c:=a.code) (ps:=a.pts) (k:=k) (i:=z.toNat-k) (by omega) (by omega)
 rw[show((k+(z.toNat-k):Nat):Int)=z by omega,hz]at this;cases this
 exact h3
 exact .inl h2
theorem AOk.spl{a:An}(h:AOk a){k:Nat}(hr:0<(az a k).1):AOk (bU a k (az a k).1 (az a k).2):=by
 have hk:=fT hr
 have hlt:=me hr
 have hok:=cN hr
 have hs: ∀x∈dA a.code a.pts k,aE x=true:=fun x hx=>by
  obtain⟨i,hi,rfl⟩:=List.getElem_of_mem hx
  have h1:=fQ (c:=a.code) (ps:=a.pts) (k:=k)
  have:=dW hi
  rw[au hi,au (by omega)]at this
  rw[this];exact h.code _ (List.getElem_mem _)
 obtain⟨n,hn⟩: ∃n,n=(az a k).1:=⟨_,rfl⟩
 obtain⟨b,hb⟩: ∃b,b=(az a k).2:=⟨_,rfl⟩
 have hl1:(az a k).2.length<(az a k).1:=hok.lt
 have hl2:1≤(az a k).2.length:=hok.one
 rw[←hn]at hk;rw[←hn,←hb]at hl1;rw[←hb]at hl2
 refine⟨fun x hx=>?_,fun p hp=>?_,by have:=h.len;omega,?_,h.npre,h.npost⟩
 simp only[bU,List.mem_map,←hn,←hb]at hx
 obtain⟨y,hy,rfl⟩:=hx
 simp only[dO,List.mem_append]at hy
 have hc: ∀y∈a.code,aE (fu k ((n:Int)-b.length) y)=true:=fun y hy=>by
  refine pw (by omega) (by omega) (h.code y hy) fun hj hlt=>?_
  have:=hZ hr (show f8 a.code a.pts y.a=true by rw[f8,nf hy hj];rfl)
  rw[←hn]at this;omega
 rcases hy with hy|hy|hy
 exact hc y (List.mem_of_mem_take hy)
 refine pw (by omega) (by omega) (hok.ok hs y (hb ▸ hy)) fun hj=>?_
 rw[hok.jmp y (hb ▸ hy)]at hj;cases hj
 exact hc y (List.mem_of_mem_drop hy)
 simp only[bU,List.mem_map,←hn,←hb]at hp
 obtain⟨q,hq,rfl⟩:=hp
 have h0:=h.pts q hq
 have:=hZ hr (show f8 a.code a.pts q.k=true by rw[f8,j9 hq,Bool.or_true])
 rw[←hn]at this
 unfold lp;split
 show 0≤q.k-_∧q.k-_≤79;omega
 exact h0
 simp only[bU,aQ];exact h.np
theorem c65{L:Nat}(h1:4096≤L)(h2:L≤9223372036854775807){xs:List In}{left:Int}(hl0:0≤left)(hl1:left≤1048576):MC Tryz.prog L 12 [cn xs,eI left] [] (Plain (eI (eL left xs.length))):=by
 refine av ?_ Z
 have O:=ll (nt:=12) h1 h2
 refine MC.body O Tryz.func12 (by kernel_rfl) Z Z (Nat.le_of_ble_eq_true Z) (fun hF=>?_)
 have hl:xs.length≤L:=by simpa[As.fact,A.fact,M.fact,D.fact,Ds.fact]using hF.1.1
 refine af (js Z (bm (ag Z ?_)))
 first|refine bP Z ?_|refine js Z ?_|refine aR Z Z ?_
 first|refine ji Z ?_|refine aR Z Z ?_
 refine js Z (jn (aa (af (ag Z (jn (ao Z (fun z10=>?_) (fun z10=>?_)))))))
 try simp only[aS]at z10
 refine af (js Z (jr ?_))
 refine aD Z ?_
 rw[show eL left xs.length= -1 from if_pos (by omega)]
 try simp only[aS]at z10
 refine ac (af (ag Z (jr ?_)))
 refine aD Z ?_
 rw[show eL left xs.length=left-xs.length from if_neg (by omega)]
theorem yu{L:Nat}(h1:4096≤L)(h2:L≤9223372036854775807){t:Pt}{left:Int}(hl0:0≤left)(hl1:left≤1048576):MC Tryz.prog L 36 [.agg (t.cells.map .d),eI left] [] (Plain (eI (eL left t.size))):=by
 refine av ?_ Z
 have O:=ll (nt:=12) h1 h2
 refine MC.body O Tryz.func36 (by kernel_rfl) Z Z (Nat.le_of_ble_eq_true Z) (fun hF=>?_)
 refine af (jx Z (js Z (bm (bb Z (ba Z (xm (ts:=t.fs) h1 h2 hl0 hl1) 9000 Z (js Z (jn (aa (af (ag Z (jn (ao Z (fun z10=>?_) (fun z10=>?_)))))))))))))
 try simp only[aS]at z10
 refine af (js Z (jr ?_))
 refine aD Z ?_
 have:eL left t.size= -1:=by unfold eL Pt.size at *;split at z10<;>simp_all<;>omega
 rw[this]
 try simp only[aS]at z10
 refine ac (af (ag Z (jr ?_)))
 refine aD Z ?_
 rfl
theorem c66{L:Nat}(h1:4096≤L)(h2:L≤9223372036854775807){ts:List Pt}{left:Int}(hl0:0≤left)(hl1:left≤1048576):MC Tryz.prog L 13 [.c (.d (ix ts)),eI left] [] (Plain (eI (eL left (Al.szs Pt.size ts)))):=by
 refine av ?_ Z
 have O:=ll (nt:=27) h1 h2
 refine MC.body O Tryz.func13 (by kernel_rfl) Z Z (Nat.le_of_ble_eq_true Z) (fun hF=>?_)
 have hl:ts.length≤L:=by simpa[As.fact,A.fact,M.fact,D.fact,Ds.fact]using hF.1.1
 refine af (js Z (bm (ag Z ?_)))
 first|refine bP Z ?_|refine js Z ?_|refine aR Z Z ?_
 first|refine ji Z ?_|refine aR Z Z ?_
 refine js Z (jn (aa (af (ag Z (jn (ao Z (fun z11=>?_) (fun z11=>?_)))))))
 try simp only[aS]at z11
 refine af (js Z (jr ?_))
 refine aD Z ?_
 rw[show eL left (Al.szs Pt.size ts)= -1 from if_pos (by unfold Al.szs;omega)]
 try simp only[aS]at z11
 refine ac (aa (af (js Z (jn (ah (al (X:=Nat) (fun i=>⟨[(0,.c (.d (ix ts))),(1,eI (left-ts.length-((ts.take i).map Pt.size).sum)),(5,eI i)],[]⟩) (fun i=>i≤ts.length∧(0:Int)≤left-ts.length-((ts.take i).map Pt.size).sum) (fun i=>ts.length-i) 0 (Ent.env ⟨Z,by simp[aw],Z,aj⟩) ?_ (fun i hi=>?_)))))))
 exact⟨co _,by simp;omega⟩
 refine aa (af (ag Z ?_))
 first|refine bP Z ?_|refine js Z ?_|refine aR Z Z ?_
 refine js Z (jn (ao Z (fun z15=>?_) (fun z15=>?_)))
 try simp only[aS]at z15
 refine ac (aa (ah (af (ag Z ?_))))
 first|refine er Z Z ?_|refine aR Z Z ?_
 refine ag Z (ba Z (yu h1 h2 hi.2 (by omega)) 24000 Z (js Z (bm (ag Z (jn (ao Z (fun z25=>?_) (fun z25=>?_)))))))
 try simp only[aS]at z25
 refine af (js Z (jr ?_))
 refine aD Z ?_
 have e:=iN Pt.size ts i (by omega)
 have e3:=rv Pt.size ts (i+1)
 rw[Int.toNat_natCast]at z25
 rw[show eL left (Al.szs Pt.size ts)= -1 from if_pos (by unfold eL at z25;unfold Al.szs;split at z25<;>omega)]
 try simp only[aS]at z25
 refine ac (ab (js Z ?_))
 first|refine ji Z ?_|refine aR Z Z ?_
 refine js Z (jn ?_)
 have e:=iN Pt.size ts i (by omega)
 have e2:eL (left-ts.length-((ts.take i).map Pt.size).sum) (Pt.size (ts.getD i default))=left-ts.length-((ts.take (i+1)).map Pt.size).sum:=by
  unfold eL at z25 ⊢
  rw[Int.toNat_natCast]at z25
  split at z25<;>omega
 refine⟨i+1,Ent.env ⟨Z,?_,Z,aj⟩,⟨by omega,?_⟩,by omega⟩
 rw[←e2];rfl
 rw[←e2];rw[Int.toNat_natCast]at z25;omega
 try simp only[aS]at z15
 refine aM (af (ag Z (jr ?_)))
 refine aD Z ?_
 obtain rfl:i=ts.length:=by omega
 have e4:=hi.2
 rw[List.take_length]at e4 ⊢
 rw[show eL left (Al.szs Pt.size ts)=left-ts.length-(ts.map Pt.size).sum from by unfold eL Al.szs;rw[if_neg (by omega)];omega]
theorem xr{L:Nat}(h1:4096≤L)(h2:L≤9223372036854775807){a:An}{left:Int}(hl0:0≤left)(hl1:left≤1048576):MC Tryz.prog L 4 [aAn a,eI left] [] (Plain (eI (eL left a.size))):=by
 refine av ?_ Z
 have O:=ll (nt:=30) h1 h2
 refine MC.body O Tryz.func4 (by kernel_rfl) Z Z (Nat.le_of_ble_eq_true Z) (fun hF=>?_)
 refine af (jx Z (js Z (bm (bb Z (ba Z (xm (ts:=a.pre) h1 h2 hl0 hl1) 9000 Z (js Z (jn (aa (af (ag Z (jn (ao Z (fun z10=>?_) (fun z10=>?_)))))))))))))
 try simp only[aS]at z10
 refine af (js Z (jr ?_))
 refine aD Z ?_
 unfold An.size
 rw[Nat.add_assoc,Nat.add_assoc,l9 _ z10]
 try simp only[aS]at z10
 refine ac (af (bb Z ?_))
 have le1:=n9 hl0 (szs Tm.size a.pre)
 refine ba Z (xm (ts:=a.post) h1 h2 z10 (by omega)) 15000 Z (js Z (jn (aa (af (ag Z (jn (ao Z (fun z16=>?_) (fun z16=>?_))))))))
 try simp only[aS]at z16
 refine af (js Z (jr ?_))
 refine aD Z ?_
 unfold An.size
 rw[gv _ z10]at z16
 rw[Nat.add_assoc,l9 _ z16]
 try simp only[aS]at z16
 refine ac (af (bb Z ?_))
 rw[gv _ z10]at z16 ⊢
 have le2:=n9 hl0 (szs Tm.size a.pre+szs Tm.size a.post)
 refine ba Z (c65 (xs:=a.code) h1 h2 z16 (by omega)) 21000 Z (js Z (jn (aa (af (ag Z (jn (ao Z (fun z22=>?_) (fun z22=>?_))))))))
 try simp only[aS]at z22
 refine af (js Z (jr ?_))
 refine aD Z ?_
 unfold An.size
 rw[gv _ z16]at z22
 rw[l9 _ z22]
 try simp only[aS]at z22
 refine ac (af (bb Z ?_))
 rw[gv _ z16]at z22 ⊢
 have le3:=n9 hl0 (szs Tm.size a.pre+szs Tm.size a.post+a.code.length)
 refine ba Z (c66 (ts:=a.pts) h1 h2 z22 (by omega)) 27000 Z (js Z (jn (aa (af (ag Z (jn (ao Z (fun z28=>?_) (fun z28=>?_))))))))
 try simp only[aS]at z28
 refine af (js Z (jr ?_))
 refine aD Z ?_
 unfold An.size
 rw[gv _ z22]at z28
 unfold eL at z28 ⊢
 split at z28
 rw[if_pos (by omega)]
 omega
 try simp only[aS]at z28
 refine ac (af (ag Z (jr ?_)))
 refine aD Z ?_
 rw[gv _ z22]
 rfl
variable{x:In}
theorem yp:MQ h1 h2 47 [.agg (x.cells.map .d)] [] (Rows (.agg [.d (.int .i64 x.op),.d (.int .i64 x.a)]) []):=by
 refine bd (jB 11 h1 h2 Tryz.func47 Z fun O hF=>?_)
 refine af (jx Z (aA ?_))
 refine jl Z (aA ?_)
 refine bm (jl Z (aA ?_))
 refine bm (bb Z (jo Z (aA ?_)))
 refine bm (bb Z (jo Z (aA ?_)))
 refine bm (js Z (jo Z (aA ?_)))
 refine jr ?_
 refine⟨.inl Z,_,bt,_,Z,[],by decide,Z,Z,Z⟩
variable{ts:List In}
theorem c69:MQ h1 h2 17 [.c (.d (c7 ts))] [] (Rows (.c (.rs 0 0 ts.length)) [cQ ts]):=by
 refine bd (jB 23 h1 h2 Tryz.func17 Z fun O hF=>?_)
 have hl:ts.length≤L:=by simpa[As.fact,A.fact,M.fact,D.fact,Ds.fact]using hF.1.1
 refine af (js Z (bm (js Z ?_)))
 first|refine bP Z ?_|refine js Z ?_|refine aR Z Z ?_
 refine bc (fo O Z Z Z Z Z Z Z Z Z (by first|omega|(simp at *;omega)) (by first|omega|(simp at *;omega)) (by first|omega|(simp at *;omega)) (by first|omega|(dsimp only;omega)|(simp only[aS]at *;omega)) (by first|omega|(simp at *;omega)) Z Z Z) Z (js Z (jn (aa (af (js Z (jn (ah (al (X:=Nat×List In) (fun x=>⟨[(0,.c (.d (c7 ts))),(3,.c (.rs 7 0 ts.length)),(4,eI x.1)],[(7,cQ x.2)]⟩) (fun x=>x.1≤ts.length∧x.2.length=ts.length∧∀j,j<x.1→x.2[j]? = ts[j]?) (fun x=>ts.length-x.1) (0,List.replicate ts.length ⟨0,0⟩) ((Ent.rowLe 7 Z (NLess.replicate (uj (.cons .refl .nil)))).trans (Ent.to ⟨Z,Z,Z,aj⟩ (by simp[ins,em,cQ]))) ?_ (fun x hi=>?_)))))))))
 exact⟨co _,List.length_replicate,fun j hj=>absurd hj (Nat.not_lt_zero j)⟩
 refine aa (af (ag Z ?_))
 first|refine bP Z ?_|refine js Z ?_|refine aR Z Z ?_
 refine js Z (jn (ao Z (fun z11=>?_) (fun z11=>?_)))
 try simp only[aS]at z11
 refine ac (aa (ah (ab (bp Z ?_))))
 first|refine er Z Z ?_|refine aR Z Z ?_
 refine js Z (aC O (B0:=21000) Z Z Z Z (yp h1 h2) (ae Z) Z Z Z Z Z Z ?_)
 first|refine er Z Z ?_|refine aR Z Z ?_
 refine bc (gq (ex:=In.cells (x.2.getD x.1 default)) (xs':=(x.2.set x.1 (ts.getD x.1 default)).map In.cells) O Z Z Z Z Z Z Z (.d Z (.d Z .nil)) Z Z Z Z Z Z (by simp[hi.2.1,show x.1<ts.length by omega]) (by simp[List.map_set])) Z (jn (ab (js Z ?_)))
 first|refine ji Z ?_|refine aR Z Z ?_
 refine js Z (jn ?_)
 refine⟨(x.1+1,x.2.set x.1 (ts.getD x.1 default)),Ent.to ⟨Z,Z,Z,aj⟩ Z,⟨by omega,by simp[hi.2.1],fun j hj=>?_⟩,by omega⟩
 rw[List.getElem?_set]
 split
 rename_i e;subst e;simp[hi.2.1,show x.1<ts.length by omega]
 exact hi.2.2 j (by omega)
 try simp only[aS]at z11
 refine aM (af (ag Z (jr ?_)))
 have e:x.2=ts:=List.ext_getElem? fun j=>by
  rcases Nat.lt_or_ge j x.1 with h|h
  ·
   exact hi.2.2 j h
  ·
   rw[List.getElem?_eq_none (by omega),List.getElem?_eq_none (by omega)]
 refine⟨.inl Z,_,bt,_,Z,[7],by decide,Z,Z,?_⟩
 rw[←e];rfl
theorem yo{p:Pt}:MQ h1 h2 48 [.agg (p.cells.map .d)] [] (Rows (.agg [.d (.int .i64 p.k),.rs 0 0 p.fs.length]) [bA p.fs]):=by
 refine bd (jB 12 h1 h2 Tryz.func48 Z fun O hF=>?_)
 refine af (jx Z (aA ?_))
 refine jl Z (aA ?_)
 refine bm (jl Z (aA ?_))
 refine bm (bb Z (jo Z (aA ?_)))
 refine bm (ag Z (aC O (B0:=10000) Z Z Z Z (xl h1 h2) (ae Z) Z Z Z Z Z Z (aA ?_)))
 refine js Z (jo Z (aA ?_))
 refine bm (js Z (jo Z (aA ?_)))
 refine jr ?_
 refine⟨.inl Z,_,bt,_,Z,[10000],by decide,Z,Z,Z⟩
theorem c70{ts:List Pt}:MQ h1 h2 18 [.c (.d (ix ts))] [] (Rows (.c (.rs 0 0 ts.length)) [cK ts]):=by
 refine bd (jB 23 h1 h2 Tryz.func18 Z fun O hF=>?_)
 have hl:ts.length≤L:=by simpa[As.fact,A.fact,M.fact,D.fact,Ds.fact]using hF.1.1
 refine af (js Z (bm (js Z ?_)))
 first|refine bP Z ?_|refine js Z ?_|refine aR Z Z ?_
 refine bc (fo O Z Z Z Z Z Z Z Z Z (by first|omega|(simp at *;omega)) (by first|omega|(simp at *;omega)) (by first|omega|(simp at *;omega)) (by first|omega|(dsimp only;omega)|(simp only[aS]at *;omega)) (by first|omega|(simp at *;omega)) Z Z Z) Z (js Z (jn (aa (af (js Z (jn (ah (al (X:=Nat×List Pt) (fun x=>⟨[(0,.c (.d (ix ts))),(3,.c (.rs 7 0 ts.length)),(4,eI x.1)],[(7,cK x.2)]⟩) (fun x=>x.1≤ts.length∧x.2.length=ts.length∧∀j,j<x.1→x.2[j]? = ts[j]?) (fun x=>ts.length-x.1) (0,List.replicate ts.length ⟨0,[]⟩) ((Ent.rowLe 7 Z (NLess.replicate (uj (.cons (.nil (sz:=2)) .nil)))).trans (Ent.to ⟨Z,Z,Z,aj⟩ (by simp[ins,em,cK]))) ?_ (fun x hi=>?_)))))))))
 exact⟨co _,List.length_replicate,fun j hj=>absurd hj (Nat.not_lt_zero j)⟩
 refine aa (af (ag Z ?_))
 first|refine bP Z ?_|refine js Z ?_|refine aR Z Z ?_
 refine js Z (jn (ao Z (fun z11=>?_) (fun z11=>?_)))
 try simp only[aS]at z11
 refine ac (aa (ah (ab (bp Z ?_))))
 first|refine er Z Z ?_|refine aR Z Z ?_
 refine js Z (aC O (B0:=21000) Z Z Z Z (yo h1 h2) (ae Z) Z Z Z Z Z Z ?_)
 first|refine er Z Z ?_|refine aR Z Z ?_
 refine bc (gq (ex:=Pt.cells (x.2.getD x.1 default)) (xs':=(x.2.set x.1 (ts.getD x.1 default)).map Pt.cells) O Z Z Z Z Z Z Z (.d Z (.rs Z (by simp) .nil)) Z Z Z Z Z Z (by simp[hi.2.1,show x.1<ts.length by omega]) (by simp[List.map_set])) Z (jn (ab (js Z ?_)))
 first|refine ji Z ?_|refine aR Z Z ?_
 refine js Z (jn ?_)
 refine⟨(x.1+1,x.2.set x.1 (ts.getD x.1 default)),Ent.to ⟨Z,Z,Z,aj⟩ Z,⟨by omega,by simp[hi.2.1],fun j hj=>?_⟩,by omega⟩
 rw[List.getElem?_set]
 split
 rename_i e;subst e;simp[hi.2.1,show x.1<ts.length by omega]
 exact hi.2.2 j (by omega)
 try simp only[aS]at z11
 refine aM (af (ag Z (jr ?_)))
 have e:x.2=ts:=List.ext_getElem? fun j=>by
  rcases Nat.lt_or_ge j x.1 with h|h
  ·
   exact hi.2.2 j h
  ·
   rw[List.getElem?_eq_none (by omega),List.getElem?_eq_none (by omega)]
 refine⟨.inl Z,_,bt,_,Z,[7],by decide,Z,Z,?_⟩
 rw[←e];rfl
variable{a:An}
theorem xq:MQ h1 h2 6 [aAn a] [] (Rows (.agg [.rs 0 0 a.pre.length,.rs 1 0 a.post.length,.rs 2 0 a.code.length,.rs 3 0 a.pts.length]) [bA a.pre,bA a.post,cQ a.code,cK a.pts]):=by
 refine bd (jB 21 h1 h2 Tryz.func6 Z fun O hF=>?_)
 refine af (jx Z (aA ?_))
 refine jl Z (aA ?_)
 refine bm (jl Z (aA ?_))
 refine bm (ag Z (aC O (B0:=7000) Z Z Z Z (xl h1 h2) (ae Z) Z Z Z Z Z Z (aA ?_)))
 refine js Z (jo Z (aA ?_))
 refine bm (ag Z (aC O (B0:=11000) Z Z Z Z (xl h1 h2) (ae Z) Z Z Z Z Z Z (aA ?_)))
 refine js Z (jo Z (aA ?_))
 refine bm (ag Z (aC O (B0:=15000) Z Z Z Z (c69 h1 h2) (ae Z) Z Z Z Z Z Z (aA ?_)))
 refine js Z (jo Z (aA ?_))
 refine bm (ag Z (aC O (B0:=19000) Z Z Z Z (c70 h1 h2) (ae Z) Z Z Z Z Z Z (aA ?_)))
 refine js Z (jo Z (aA ?_))
 refine bm (js Z (jo Z (aA ?_)))
 refine jr ?_
 refine⟨.inl Z,_,bt,_,Z,[7000,11000,15000,19000],by decide,Z,Z,Z⟩
theorem p0{L:Nat}(h1:4096≤L)(h2:L≤1073741824){a:An}:MC Tryz.prog L 6 [aAn a] [] (Plain (aAn a)):=(xq h1 h2).frozen (.v (.agg (.cons (.whole rfl (aQ _).symm) (.cons (.whole rfl (aQ _).symm) (.cons (.whole rfl (aQ _).symm) (.cons (.whole rfl (aQ _).symm) .nil))))))
theorem yl{s t:In}:MQ h1 h2 64 [.agg (s.cells.map .d),.agg (t.cells.map .d)] [] (Plain (eB (decide (s=t)))):=by
 refine av ?_ Z
 refine jB 15 h1 h2 Tryz.func64 Z fun O hF=>?_
 refine af (jx Z (jx Z (js Z (jn (aa (af (bp Z (js Z (jn (ao Z (fun z9=>?_) (fun z9=>?_)))))))))))
 try simp only[aS]at z9
 refine af (js Z (jr ?_))
 refine aD Z ?_
 rw[decide_eq_false (fun e=>z9 (by rw[e]))]
 try simp only[aS]at z9
 refine ac (aa (af (bp Z (js Z (jn (ao Z (fun z14=>?_) (fun z14=>?_)))))))
 try simp only[aS]at z14
 refine af (js Z (jr ?_))
 refine aD Z ?_
 rw[decide_eq_false (fun e=>z14 (by rw[e]))]
 try simp only[aS]at z14
 refine ac (af (js Z (jr ?_)))
 refine aD Z ?_
 have e:s=t:=by cases s;cases t;simp_all
 rw[decide_eq_true e]
theorem c74{xs ys:List In}:MQ h1 h2 27 [.c (.d (c7 xs)),.c (.d (c7 ys))] [] (Plain (eB (decide (xs=ys)))):=by
 refine av ?_ Z
 refine jB 27 h1 h2 Tryz.func27 Z fun O hF=>?_
 have hl:xs.length≤L:=by simpa[As.fact,A.fact,M.fact,D.fact,Ds.fact]using hF.1.1
 have hl2:ys.length≤L:=by simpa[As.fact,A.fact,M.fact,D.fact,Ds.fact]using hF.2.1.1
 refine af (js Z (jn (aa (af (js Z ?_)))))
 first|refine bP Z ?_|refine js Z ?_|refine aR Z Z ?_
 refine js Z ?_
 first|refine bP Z ?_|refine js Z ?_|refine aR Z Z ?_
 refine js Z (jn (ao Z (fun z10=>?_) (fun z10=>?_)))
 try simp only[aS]at z10
 refine af (js Z (jr ?_))
 refine aD Z ?_
 rw[decide_eq_false (fun e=>by subst e;simp at z10)]
 try simp only[aS]at z10
 refine ac (aa (af (js Z (jn (ah (al (X:=Nat) (fun i=>⟨[(0,.c (.d (c7 xs))),(1,.c (.d (c7 ys))),(5,eI i)],[]⟩) (fun i=>i≤xs.length∧∀j,j<i→xs[j]? = ys[j]?) (fun i=>xs.length-i) 0 (Ent.env ⟨Z,Z,Z,aj⟩) ?_ (fun i hi=>?_)))))))
 exact⟨co _,fun j hj=>absurd hj (Nat.not_lt_zero j)⟩
 refine aa (af (ag Z ?_))
 first|refine bP Z ?_|refine js Z ?_|refine aR Z Z ?_
 refine js Z (jn (ao Z (fun z14=>?_) (fun z14=>?_)))
 try simp only[aS]at z14
 refine ac (aa (ah (aa (gK [_,_,_,_,_,_,_,_,_,_] [aN,aN,ar [0,1],ar [0,1,2],aN,aN,ar [4,5],ar [4,5,6],pe (rg 0 8) 0,pn (rg 0 9) 1 1] [8] [_,_] (kc Z (kc Z (ai (vD Z) (kc Z (kc Z (kc Z (ai (vD Z) (kc Z (ai (aG O (B0:=26000) Z Z Z Z (yl h1 h2) (ae Z) Z Z Z Z Z) (kc Z trivial)))))))))) ?_))))
 refine ao Z (fun z26=>?_) (fun z26=>?_)
 try simp only[aS]at z26
 refine af (js Z (jr ?_))
 refine aD Z ?_
 rw[decide_eq_false (fun e=>by subst e;simp at z26)]
 try simp only[aS]at z26
 refine ac (ab (js Z ?_))
 first|refine ji Z ?_|refine aR Z Z ?_
 refine js Z (jn ?_)
 refine⟨i+1,Ent.env ⟨Z,Z,Z,aj⟩,⟨by omega,fun j hj=>?_⟩,by omega⟩
 rcases Nat.lt_or_ge j i with h|h
 exact hi.2 j h
 obtain rfl:j=i:=by omega
 rw[Int.toNat_natCast,au (by omega),au (by omega)]at z26
 rw[List.getElem?_eq_getElem (by omega),List.getElem?_eq_getElem (by omega),z26]
 try simp only[aS]at z14
 refine aM (af (js Z (jr ?_)))
 refine aD Z ?_
 have e:xs=ys:=List.ext_getElem? fun j=>by
  rcases Nat.lt_or_ge j i with h|h
  ·
   exact hi.2 j h
  ·
   rw[List.getElem?_eq_none (by omega),List.getElem?_eq_none (by omega)]
 rw[decide_eq_true e]
theorem yk{s t:Pt}:MQ h1 h2 65 [.agg (s.cells.map .d),.agg (t.cells.map .d)] [] (Plain (eB (decide (s=t)))):=by
 refine av ?_ Z
 refine jB 16 h1 h2 Tryz.func65 Z fun O hF=>?_
 refine af (jx Z (jx Z (js Z (jn (aa (af (bp Z (js Z (jn (ao Z (fun z9=>?_) (fun z9=>?_)))))))))))
 try simp only[aS]at z9
 refine af (js Z (jr ?_))
 refine aD Z ?_
 rw[decide_eq_false (fun e=>z9 (by rw[e]))]
 try simp only[aS]at z9
 refine ac (aa (af (bp Z (ba Z (xo h1 h2) 15000 Z (js Z (jn (ao Z (fun z15=>?_) (fun z15=>?_))))))))
 try simp only[aS]at z15
 refine af (js Z (jr ?_))
 refine aD Z ?_
 rw[decide_eq_false (fun e=>z15 (by rw[e]))]
 try simp only[aS]at z15
 refine ac (af (js Z (jr ?_)))
 refine aD Z ?_
 have e:s=t:=by cases s;cases t;simp_all
 rw[decide_eq_true e]
theorem c75{xs ys:List Pt}:MQ h1 h2 28 [.c (.d (ix xs)),.c (.d (ix ys))] [] (Plain (eB (decide (xs=ys)))):=by
 refine av ?_ Z
 refine jB 27 h1 h2 Tryz.func28 Z fun O hF=>?_
 have hl:xs.length≤L:=by simpa[As.fact,A.fact,M.fact,D.fact,Ds.fact]using hF.1.1
 have hl2:ys.length≤L:=by simpa[As.fact,A.fact,M.fact,D.fact,Ds.fact]using hF.2.1.1
 refine af (js Z (jn (aa (af (js Z ?_)))))
 first|refine bP Z ?_|refine js Z ?_|refine aR Z Z ?_
 refine js Z ?_
 first|refine bP Z ?_|refine js Z ?_|refine aR Z Z ?_
 refine js Z (jn (ao Z (fun z10=>?_) (fun z10=>?_)))
 try simp only[aS]at z10
 refine af (js Z (jr ?_))
 refine aD Z ?_
 rw[decide_eq_false (fun e=>by subst e;simp at z10)]
 try simp only[aS]at z10
 refine ac (aa (af (js Z (jn (ah (al (X:=Nat) (fun i=>⟨[(0,.c (.d (ix xs))),(1,.c (.d (ix ys))),(5,eI i)],[]⟩) (fun i=>i≤xs.length∧∀j,j<i→xs[j]? = ys[j]?) (fun i=>xs.length-i) 0 (Ent.env ⟨Z,Z,Z,aj⟩) ?_ (fun i hi=>?_)))))))
 exact⟨co _,fun j hj=>absurd hj (Nat.not_lt_zero j)⟩
 refine aa (af (ag Z ?_))
 first|refine bP Z ?_|refine js Z ?_|refine aR Z Z ?_
 refine js Z (jn (ao Z (fun z14=>?_) (fun z14=>?_)))
 try simp only[aS]at z14
 refine ac (aa (ah (aa (gK [_,_,_,_,_,_,_,_,_,_] [aN,aN,ar [0,1],ar [0,1,2],aN,aN,ar [4,5],ar [4,5,6],pe (rg 0 8) 0,pn (rg 0 9) 1 1] [8] [_,_] (kc Z (kc Z (ai (vD Z) (kc Z (kc Z (kc Z (ai (vD Z) (kc Z (ai (aG O (B0:=26000) Z Z Z Z (yk h1 h2) (ae Z) Z Z Z Z Z) (kc Z trivial)))))))))) ?_))))
 refine ao Z (fun z26=>?_) (fun z26=>?_)
 try simp only[aS]at z26
 refine af (js Z (jr ?_))
 refine aD Z ?_
 rw[decide_eq_false (fun e=>by subst e;simp at z26)]
 try simp only[aS]at z26
 refine ac (ab (js Z ?_))
 first|refine ji Z ?_|refine aR Z Z ?_
 refine js Z (jn ?_)
 refine⟨i+1,Ent.env ⟨Z,Z,Z,aj⟩,⟨by omega,fun j hj=>?_⟩,by omega⟩
 rcases Nat.lt_or_ge j i with h|h
 exact hi.2 j h
 obtain rfl:j=i:=by omega
 rw[Int.toNat_natCast,au (by omega),au (by omega)]at z26
 rw[List.getElem?_eq_getElem (by omega),List.getElem?_eq_getElem (by omega),z26]
 try simp only[aS]at z14
 refine aM (af (js Z (jr ?_)))
 refine aD Z ?_
 have e:xs=ys:=List.ext_getElem? fun j=>by
  rcases Nat.lt_or_ge j i with h|h
  ·
   exact hi.2 j h
  ·
   rw[List.getElem?_eq_none (by omega),List.getElem?_eq_none (by omega)]
 rw[decide_eq_true e]
theorem tY{s t:An}:MQ h1 h2 8 [aAn s,aAn t] [] (Plain (eB (decide (s=t)))):=by
 refine av ?_ Z
 refine jB 29 h1 h2 Tryz.func8 Z fun O hF=>?_
 refine af (jx Z (jx Z (js Z (jn (aa (af (bp Z (ba Z (xo h1 h2) 10000 Z (js Z (jn (ao Z (fun z10=>?_) (fun z10=>?_))))))))))))
 try simp only[aS]at z10
 refine af (js Z (jr ?_))
 refine aD Z ?_
 rw[decide_eq_false (fun e=>z10 (by rw[e]))]
 try simp only[aS]at z10
 refine ac (aa (af (bp Z (ba Z (xo h1 h2) 16000 Z (js Z (jn (ao Z (fun z16=>?_) (fun z16=>?_))))))))
 try simp only[aS]at z16
 refine af (js Z (jr ?_))
 refine aD Z ?_
 rw[decide_eq_false (fun e=>z16 (by rw[e]))]
 try simp only[aS]at z16
 refine ac (aa (af (bp Z (ba Z (c74 h1 h2) 22000 Z (js Z (jn (ao Z (fun z22=>?_) (fun z22=>?_))))))))
 try simp only[aS]at z22
 refine af (js Z (jr ?_))
 refine aD Z ?_
 rw[decide_eq_false (fun e=>z22 (by rw[e]))]
 try simp only[aS]at z22
 refine ac (aa (af (bp Z (ba Z (c75 h1 h2) 28000 Z (js Z (jn (ao Z (fun z28=>?_) (fun z28=>?_))))))))
 try simp only[aS]at z28
 refine af (js Z (jr ?_))
 refine aD Z ?_
 rw[decide_eq_false (fun e=>z28 (by rw[e]))]
 try simp only[aS]at z28
 refine ac (af (js Z (jr ?_)))
 refine aD Z ?_
 have e:s=t:=by cases s;cases t;simp_all
 rw[decide_eq_true e]
variable{k:Int}
theorem xV:MQ h1 h2 30 [.c (.d (c7 [])),eI k] [] (Plain (eI k)):=by
 refine av ?_ Z
 refine jB 27 h1 h2 Tryz.func30 Z fun O hF=>?_
 refine af (js Z (jn (aa (af (js Z (jn (ah (al (X:=Nat) (fun i=>⟨[(0,.c (.d (c7 []))),(1,eI k),(5,eI 0)],[]⟩) (fun i=>True) (fun i=>0) 0 (Ent.env ⟨Z,Z,Z,aj⟩) ?_ (fun i hi=>?_)))))))))
 trivial
 refine aa (af (ag Z ?_))
 first|refine bP Z ?_|refine js Z ?_|refine aR Z Z ?_
 refine js Z (jn (ao Z (fun z9=>?_) (fun z9=>?_)))
 try simp only[aS]at z9
 exact absurd z9 (by simp)
 try simp only[aS]at z9
 refine aM (af (ag Z (jr ?_)))
 refine aD Z ?_
 first|rfl|skip
theorem xU:MQ h1 h2 31 [.c (.d (ix [])),eI k] [] (Plain (eI k)):=by
 refine av ?_ Z
 refine jB 27 h1 h2 Tryz.func31 Z fun O hF=>?_
 refine af (js Z (jn (aa (af (js Z (jn (ah (al (X:=Nat) (fun i=>⟨[(0,.c (.d (ix []))),(1,eI k),(5,eI 0)],[]⟩) (fun i=>True) (fun i=>0) 0 (Ent.env ⟨Z,Z,Z,aj⟩) ?_ (fun i hi=>?_)))))))))
 trivial
 refine aa (af (ag Z ?_))
 first|refine bP Z ?_|refine js Z ?_|refine aR Z Z ?_
 refine js Z (jn (ao Z (fun z9=>?_) (fun z9=>?_)))
 try simp only[aS]at z9
 exact absurd z9 (by simp)
 try simp only[aS]at z9
 refine aM (af (ag Z (jr ?_)))
 refine aD Z ?_
 first|rfl|skip
theorem c76(hk0:0≤k)(hk1:k+bv fg ts≤1073741824):MQ h1 h2 30 [.c (.rs 0 0 ts.length),eI k] [(0,cQ ts)] (fA (eI (k+bv fg ts)) [(0,cQ (bn nX fg k ts))]):=by
 refine jH 27 [0] h1 h2 Tryz.func30 Z fun O hF=>?_
 refine gJ 0 Z (fun hB=>?_)
 have hl:ts.length≤L:=by simpa[B.fact]using hB.1
 refine af (js Z (jn (aa (af (js Z (jn (ah (al (X:=Nat) (fun i=>⟨[(0,.c (.rs 0 0 ts.length)),(1,eI (k+bv fg (ts.take i))),(5,eI i)],[(0,cQ (mk nX fg k i ts))]⟩) (fun i=>i≤ts.length) (fun i=>ts.length-i) 0 (Ent.to ⟨Z,by simp[bN,aw,bv],Z,aj⟩ (by simp[kb])) ?_ (fun i hi=>?_)))))))))
 exact co _
 refine aa (af (ag Z ?_))
 first|refine bP Z ?_|refine js Z ?_|refine aR Z Z ?_
 refine js Z (jf [9,0,1,5] Z (jn (ao Z (fun z9=>?_) (fun z9=>?_))))
 try simp only[aS]at z9
 refine ac (aa (ah (af (bb Z ?_))))
 first|refine er Z Z ?_|refine aR Z Z ?_
 refine js Z (jf [16,14,9,0,1,5] Z ?_)
 obtain⟨K,hK⟩: ∃K,K=k+(bv fg (ts.take i):Int):=⟨_,rfl⟩
 rw[←hK]
 have hcs:=fH (sz:=fg) (show i<ts.length by omega)
 have hcl:=jj (sz:=fg) (l:=ts) (i:=i+1)
 have hg:=ko (f:=nX) (sz:=fg) (k:=k) (show i<ts.length by omega)
 have hs:=iC (f:=nX) (sz:=fg) (k:=k) (show i<ts.length by omega)
 rw[←au (show i<ts.length by omega)]at hcs hg hs
 obtain⟨t,ht⟩: ∃t,t=ts.getD i default:=⟨_,rfl⟩
 rw[←ht]at hcs hg hs
 rw[←hK]at hs
 simp only[fg]at hcs
 obtain⟨R,hR⟩: ∃R,R=(mk nX fg k i ts).map In.cells:=⟨_,rfl⟩
 have hRl:i<R.length:=by rw[hR,aQ,gE];omega
 have hRi:R[i]? = some t.cells:=by rw[hR,List.getElem?_map,hg];rfl
 have hRn:R.set i (nX K t).cells=(mk nX fg k (i+1) ts).map In.cells:=by rw[hR,←hs,List.map_set]
 have e0:cQ (mk nX fg k i ts)= .row true 2 (R.set i t.cells):=by rw[jk hRi,hR]
 rw[e0]
 refine bc (bl (ex:=[.int .i64 t.op,.int .i64 t.a]) (xs':=R.set i [.int .i64 K,.int .i64 t.a]) O Z Z Z Z Z Z Z Z Z Z Z Z Z Z (by simp[hRl]) (by simp)) Z (aA ?_)
 refine jf [9,0,1,5] Z (bm (js Z ?_))
 first|refine ji Z ?_|refine aR Z Z ?_
 refine js Z (jf [1,9,0,5] Z (bm (bb Z ?_)))
 first|refine er Z Z ?_|refine aR Z Z ?_
 refine js Z (jf [23,21,1,9,0,5] Z (bc (bl (ex:=[.int .i64 K,.int .i64 t.a]) (xs':=R.set i [.int .i64 K,.int .i64 (K+1)]) O Z Z Z Z Z Z Z Z Z Z Z Z Z Z (by simp[hRl]) (by simp)) Z (aA ?_)))
 refine jf [1,9,0,5] Z (jn (ab (js Z ?_)))
 first|refine ji Z ?_|refine aR Z Z ?_
 refine js Z (jf [1,9,0,5] Z (jn (ab (js Z ?_))))
 first|refine ji Z ?_|refine aR Z Z ?_
 refine js Z (jf [5,1,9,0] Z (jn ?_))
 refine⟨i+1,Ent.to ⟨Z,?_,Z,aj⟩ (by rw[cQ,←hRn]),by omega,by omega⟩
 rw[hcs]
 exact congrArg (fun z=>some (eI z)) (by omega)
 try simp only[aS]at z9
 refine aM (af (ag Z (jr ?_)))
 refine aD Z ?_
 obtain rfl:i=ts.length:=by omega
 rw[lZ (cm _),List.take_length]
 exact⟨Z,Z⟩
theorem c77{ts:List Pt}(hk0:0≤k)(hk1:k+bv nP ts≤1073741824):MQ h1 h2 31 [.c (.rs 0 0 ts.length),eI k] [(0,cK ts)] (fA (eI (k+bv nP ts)) [(0,cK (bn mP nP k ts))]):=by
 refine jH 27 [0] h1 h2 Tryz.func31 Z fun O hF=>?_
 refine gJ 0 Z (fun hB=>?_)
 have hl:ts.length≤L:=by simpa[B.fact]using hB.1
 refine af (js Z (jn (aa (af (js Z (jn (ah (al (X:=Nat) (fun i=>⟨[(0,.c (.rs 0 0 ts.length)),(1,eI (k+bv nP (ts.take i))),(5,eI i)],[(0,cK (mk mP nP k i ts))]⟩) (fun i=>i≤ts.length) (fun i=>ts.length-i) 0 (Ent.to ⟨Z,by simp[bN,aw,bv],Z,aj⟩ (by simp[kb])) ?_ (fun i hi=>?_)))))))))
 exact co _
 refine aa (af (ag Z ?_))
 first|refine bP Z ?_|refine js Z ?_|refine aR Z Z ?_
 refine js Z (jf [9,0,1,5] Z (jn (ao Z (fun z9=>?_) (fun z9=>?_))))
 try simp only[aS]at z9
 refine ac (aa (ah (af (bb Z ?_))))
 first|refine er Z Z ?_|refine aR Z Z ?_
 refine js Z (jf [16,14,9,0,1,5] Z ?_)
 obtain⟨K,hK⟩: ∃K,K=k+(bv nP (ts.take i):Int):=⟨_,rfl⟩
 rw[←hK]
 have hcs:=fH (sz:=nP) (show i<ts.length by omega)
 have hcl:=jj (sz:=nP) (l:=ts) (i:=i+1)
 have hg:=ko (f:=mP) (sz:=nP) (k:=k) (show i<ts.length by omega)
 have hs:=iC (f:=mP) (sz:=nP) (k:=k) (show i<ts.length by omega)
 rw[←au (show i<ts.length by omega)]at hcs hg hs
 obtain⟨t,ht⟩: ∃t,t=ts.getD i default:=⟨_,rfl⟩
 rw[←ht]at hcs hg hs
 rw[←hK]at hs
 simp only[nP]at hcs
 obtain⟨R,hR⟩: ∃R,R=(mk mP nP k i ts).map Pt.cells:=⟨_,rfl⟩
 have hRl:i<R.length:=by rw[hR,aQ,gE];omega
 have hRi:R[i]? = some t.cells:=by rw[hR,List.getElem?_map,hg];rfl
 have hRn:R.set i (mP K t).cells=(mk mP nP k (i+1) ts).map Pt.cells:=by rw[hR,←hs,List.map_set]
 have e0:cK (mk mP nP k i ts)= .row true 2 (R.set i t.cells):=by rw[jk hRi,hR]
 rw[e0]
 refine bc (bl (ex:=[.int .i64 t.k,oV t.fs]) (xs':=R.set i [.int .i64 K,oV t.fs]) O Z Z Z Z Z Z Z Z Z Z Z Z Z Z (by simp[hRl]) (by simp)) Z (aA ?_)
 refine jf [9,0,1,5] Z (bm (js Z ?_))
 first|refine ji Z ?_|refine aR Z Z ?_
 refine js Z (jf [1,9,0,5] Z (jn (ab (ag Z ?_))))
 first|refine er Z Z ?_|refine aR Z Z ?_
 refine js Z (ak (aW O (ex:=[.int .i64 K,oV t.fs]) Z Z Z Z (by simp[hRl]) Z) Z (js Z (jf [24,23,1,9,0,5] Z (k6 O (l:=0) (j:=1) (z:=2) (ex:=[.int .i64 K,oV t.fs]) (ys:=(t.fs).map Tm.cells) (ys':=(bn mT nT (K+1) t.fs).map Tm.cells) (xs':=R.set i [.int .i64 K,oV (bn mT nT (K+1) t.fs)]) Z Z Z Z (.rp (.d Z .nil)) (.rp (.d Z .nil)) Z (by simp[hRl]) Z (xa (ts:=t.fs) (k:=(K+1)) h1 h2 (by omega) (by omega)).1 (fun _=>by rw[aQ];exact xa (ts:=t.fs) h1 h2 (by omega) (by omega)) (fun hys=>?_) Z (by simp[aT]) Z Z Z Z (by simp) ?_))))
 have hy:t.fs=[]:=by simpa using hys
 rw[hy]
 exact(um h1 h2 (k:=(K+1))).plain (by simp[bv,hy])
 refine aA ?_
 refine js Z (jf [1,9,0,5] Z (jn (ab (js Z ?_))))
 first|refine ji Z ?_|refine aR Z Z ?_
 refine js Z (jf [5,1,9,0] Z (jn ?_))
 refine⟨i+1,Ent.to ⟨Z,?_,Z,aj⟩ (by rw[cK,←hRn]),by omega,by omega⟩
 rw[hcs]
 exact congrArg (fun z=>some (eI z)) (by omega)
 try simp only[aS]at z9
 refine aM (af (ag Z (jr ?_)))
 refine aD Z ?_
 obtain rfl:i=ts.length:=by omega
 rw[lZ (cm _),List.take_length]
 exact⟨Z,Z⟩
abbrev ug(a:An):List (Nat×B):=[(0,bA a.pre),(1,bA a.post),(2,cQ a.code),(3,cK a.pts)]
abbrev gM(a:An):A:=.agg [.rs 0 0 a.pre.length,.rs 1 0 a.post.length,.rs 2 0 a.code.length,.rs 3 0 a.pts.length]
def yH(k:Int)(a:An):An:=⟨bn mT nT k a.pre,bn mT nT (k+bv nT a.pre) a.post,bn nX fg (k+bv nT a.pre+bv nT a.post) a.code,bn mP nP (k+bv nT a.pre+bv nT a.post+bv fg a.code) a.pts⟩
theorem xp(hk0:0≤k)(hk1:k+bv nT a.pre+bv nT a.post+bv fg a.code+bv nP a.pts≤1073741824):MQ h1 h2 9 [gM a,eI k] (ug a) (fA (eI (k+bv nT a.pre+bv nT a.post+bv fg a.code+bv nP a.pts)) (ug (yH k a))):=by
 refine d9 500 Z (jH 22 [500,501,502,503] h1 h2 Tryz.func9 Z fun O hF=>?_)
 refine af (jx Z (js Z (bm (bb Z (jf [7,6,4,2,0,1] Z (bH O [500] (bin:=[bA a.pre]) Z Z Z Z (xa (ts:=a.pre) (k:=k) h1 h2 hk0 (by omega)) Z Z Z Z Z Z (B0:=9000) Z Z (aA ?_)))))))
 refine js Z (jf [1,4,2,0] Z (bm (bb Z (jf [11,10,1,4,2,0] Z (bH O [501] (bin:=[bA a.post]) Z Z Z Z (xa (ts:=a.post) (k:=k+bv nT a.pre) h1 h2 (by omega) (by omega)) Z Z Z Z Z Z (B0:=13000) Z Z (aA ?_))))))
 refine js Z (jf [1,4,2,0] Z (bm (bb Z (jf [15,14,1,4,2,0] Z (bH O [502] (bin:=[cQ a.code]) Z Z Z Z (c76 (ts:=a.code) (k:=k+bv nT a.pre+bv nT a.post) h1 h2 (by omega) (by omega)) Z Z Z Z Z Z (B0:=17000) Z Z (aA ?_))))))
 refine js Z (jf [1,4,2,0] Z (bm (bb Z (jf [19,18,1,4,2,0] Z (bH O [503] (bin:=[cK a.pts]) Z Z Z Z (c77 (ts:=a.pts) (k:=k+bv nT a.pre+bv nT a.post+bv fg a.code) h1 h2 (by omega) (by omega)) Z Z Z Z Z Z (B0:=21000) Z Z (aA ?_))))))
 refine js Z (jf [1,4,2,0] Z (bm (ag Z (jr ?_))))
 refine⟨.inl Z,_,aq [500,501,502,503] Z Z (e':=[(4,eI (k+bv nT a.pre+bv nT a.post+bv fg a.code+bv nP a.pts))]) ⟨Z,aj⟩ Z,_,Z,Z,Z⟩
theorem xX:MQ h1 h2 9 [aAn ⟨[],[],[],[]⟩,eI k] [] (Plain (eI k)):=by
 refine av ?_ Z
 refine jB 22 h1 h2 Tryz.func9 Z fun O hF=>?_
 refine af (jx Z (aA ?_))
 refine js Z (bm (bb Z (jf [7,6,4,2,0,1] Z (ba Z (um (k:=k) h1 h2) 9000 Z (js Z (jf [1,4,2,0] Z (bm (bb Z (jf [11,10,1,4,2,0] Z (ba Z (um (k:=k) h1 h2) 13000 Z (js Z (jf [1,4,2,0] Z (bm (bb Z (jf [15,14,1,4,2,0] Z (ba Z (xV (k:=k) h1 h2) 17000 Z (js Z (jf [1,4,2,0] Z (bm (bb Z (jf [19,18,1,4,2,0] Z (ba Z (xU (k:=k) h1 h2) 21000 Z (js Z (jf [1,4,2,0] Z (bm (ag Z (jr ?_)))))))))))))))))))))))))))
 refine aD Z ?_
 rfl
theorem c78(hk0:0≤k)(hk1:k+bv fg ts≤1073741824):MQ h1 h2 33 [cn (bn nX fg k ts),eI k] [] (Plain (eI (k+bv fg ts))):=by
 refine av ?_ Z
 refine jB 31 h1 h2 Tryz.func33 Z fun O hF=>?_
 have hlm:=aT (f:=nX) (sz:=fg) (k:=k) (l:=ts)
 have hl:(bn nX fg k ts).length≤L:=by simpa[As.fact,A.fact,M.fact,D.fact,Ds.fact]using hF.1.1
 refine af (js Z (jn (aa (af (js Z (jn (ah (al (X:=Nat) (fun i=>⟨[(0,cn (bn nX fg k ts)),(1,eI (k+bv fg (ts.take i))),(5,eI i)],[]⟩) (fun i=>i≤ts.length) (fun i=>ts.length-i) 0 (Ent.env ⟨Z,by simp[bN,aw,bv],Z,aj⟩) ?_ (fun i hi=>?_)))))))))
 exact co _
 refine aa (af (ag Z ?_))
 first|refine bP Z ?_|refine js Z ?_|refine aR Z Z ?_
 refine js Z (jf [9,0,1,5] Z (jn (ao Z (fun z9=>?_) (fun z9=>?_))))
 refine ac (aa (ah (aa (af ?_))))
 have hil:i<ts.length:=by have h9:=bZ z9;omega
 have hg:=fW (f:=nX) (sz:=fg) (k:=k) hil
 have hcs:=fH (sz:=fg) hil
 have hcl:=jj (sz:=fg) (l:=ts) (i:=i+1)
 rw[←au hil]at hcs
 obtain⟨t,ht⟩: ∃t,t=ts.getD i default:=⟨_,rfl⟩
 rw[←ht]at hg hcs
 simp only[fg]at hcs
 obtain⟨K,hK⟩: ∃K,K=k+(bv fg (ts.take i):Int):=⟨_,rfl⟩
 rw[←hK]at hg ⊢
 refine ag Z (ak ((ax O Z Z Z Z Z Z Z Z (bJ (by omega))).cast (v':=ptr (In.cells (nX K t))) (by rw[hg])) Z (bp Z (jf [18,9,0,1,5] Z (jn (ao Z (fun z18=>?_) (fun z18=>?_))))))
 exact absurd z18 (by simp)
 refine ac (af (js Z ?_))
 first|refine ji Z ?_|refine aR Z Z ?_
 refine js Z (jf [1,18,9,0,5] Z (jn (aa (af (ag Z (ak ((ax O Z Z Z Z Z Z Z Z (bJ (by omega))).cast (v':=ptr (In.cells (nX K t))) (by rw[hg])) Z (bp Z (jf [27,1,18,9,0,5] Z (jn (ao Z (fun z27=>?_) (fun z27=>?_)))))))))))
 exact absurd z27 (by simp)
 refine ac (ab (js Z ?_))
 first|refine ji Z ?_|refine aR Z Z ?_
 refine js Z (jf [1,27,18,9,0,5] Z (jn (ab (js Z ?_))))
 first|refine ji Z ?_|refine aR Z Z ?_
 refine js Z (jf [5,1,27,18,9,0] Z (jn ?_))
 refine⟨i+1,Ent.env ⟨Z,?_,Z,aj⟩,by omega,by omega⟩
 rw[hcs]
 exact congrArg (fun z=>some (eI z)) (by omega)
 refine aM (af (ag Z (jr ?_)))
 refine aD Z ?_
 have h9:=cS z9
 obtain rfl:i=ts.length:=by omega
 rw[List.take_length]
theorem c79{ts:List Pt}(hk0:0≤k)(hk1:k+bv nP ts≤1073741824):MQ h1 h2 34 [lY (bn mP nP k ts),eI k] [] (Plain (eI (k+bv nP ts))):=by
 refine av ?_ Z
 refine jB 31 h1 h2 Tryz.func34 Z fun O hF=>?_
 have hlm:=aT (f:=mP) (sz:=nP) (k:=k) (l:=ts)
 have hl:(bn mP nP k ts).length≤L:=by simpa[As.fact,A.fact,M.fact,D.fact,Ds.fact]using hF.1.1
 refine af (js Z (jn (aa (af (js Z (jn (ah (al (X:=Nat) (fun i=>⟨[(0,lY (bn mP nP k ts)),(1,eI (k+bv nP (ts.take i))),(5,eI i)],[]⟩) (fun i=>i≤ts.length) (fun i=>ts.length-i) 0 (Ent.env ⟨Z,by simp[bN,aw,bv],Z,aj⟩) ?_ (fun i hi=>?_)))))))))
 exact co _
 refine aa (af (ag Z ?_))
 first|refine bP Z ?_|refine js Z ?_|refine aR Z Z ?_
 refine js Z (jf [9,0,1,5] Z (jn (ao Z (fun z9=>?_) (fun z9=>?_))))
 refine ac (aa (ah (aa (af ?_))))
 have hil:i<ts.length:=by have h9:=bZ z9;omega
 have hg:=fW (f:=mP) (sz:=nP) (k:=k) hil
 have hcs:=fH (sz:=nP) hil
 have hcl:=jj (sz:=nP) (l:=ts) (i:=i+1)
 rw[←au hil]at hcs
 obtain⟨t,ht⟩: ∃t,t=ts.getD i default:=⟨_,rfl⟩
 rw[←ht]at hg hcs
 simp only[nP]at hcs
 obtain⟨K,hK⟩: ∃K,K=k+(bv nP (ts.take i):Int):=⟨_,rfl⟩
 rw[←hK]at hg ⊢
 refine ag Z (ak ((ax O Z Z Z Z Z Z Z Z (bJ (by omega))).cast (v':=ptr (Pt.cells (mP K t))) (by rw[hg])) Z (bp Z (jf [18,9,0,1,5] Z (jn (ao Z (fun z18=>?_) (fun z18=>?_))))))
 exact absurd z18 (by simp)
 refine ac (af (js Z ?_))
 first|refine ji Z ?_|refine aR Z Z ?_
 refine js Z (jf [1,18,9,0,5] Z (bm (ag Z (ak ((ax O Z Z Z Z Z Z Z Z (bJ (by omega))).cast (v':=ptr (Pt.cells (mP K t))) (by rw[hg])) Z (bb Z (jf [26,25,1,18,9,0,5] Z (ba Z (xn (ts:=t.fs) (k:=K+1) h1 h2 (by omega) (by omega)) 28000 Z (js Z (jf [1,18,9,0,5] Z (bm (ag Z (jn (ao Z (fun z29=>?_) (fun z29=>?_))))))))))))))
 exact absurd (bZ z29) (by omega)
 refine ac (ab (js Z ?_))
 first|refine ji Z ?_|refine aR Z Z ?_
 refine js Z (jf [5,29,28,1,18,9,0] Z (jn ?_))
 refine⟨i+1,Ent.env ⟨Z,?_,Z,aj⟩,by omega,by omega⟩
 rw[hcs]
 exact congrArg (fun z=>some (eI z)) (by omega)
 refine aM (af (ag Z (jr ?_)))
 refine aD Z ?_
 have h9:=cS z9
 obtain rfl:i=ts.length:=by omega
 rw[List.take_length]
theorem xb(hk0:0≤k)(hk1:k+bv nT a.pre+bv nT a.post+bv fg a.code+bv nP a.pts≤1073741824):MQ h1 h2 10 [aAn (yH k a),eI k] [] (Plain (eI (k+bv nT a.pre+bv nT a.post+bv fg a.code+bv nP a.pts))):=by
 refine av ?_ Z
 refine jB 30 h1 h2 Tryz.func10 Z fun O hF=>?_
 refine af (jx Z (js Z (bm (bb Z (jf [7,6,4,2,0,1] Z (ba Z (xn (ts:=a.pre) (k:=k) h1 h2 hk0 (by omega)) 9000 Z (js Z (jf [1,4,2,0] Z (jn (aa (af (ag Z (jn (ao Z (fun z10=>?_) (fun z10=>?_)))))))))))))))
 exact absurd (bZ z10) (by omega)
 refine ac (af (bb Z (jf [13,12,9,1,4,2,0] Z (ba Z (xn (ts:=a.post) (k:=k+bv nT a.pre) h1 h2 (by omega) (by omega)) 15000 Z (js Z (jf [1,9,4,2,0] Z (jn (aa (af (ag Z (jn (ao Z (fun z16=>?_) (fun z16=>?_)))))))))))))
 exact absurd (bZ z16) (by omega)
 refine ac (af (bb Z (jf [19,18,15,1,9,4,2,0] Z (ba Z (c78 (ts:=a.code) (k:=k+bv nT a.pre+bv nT a.post) h1 h2 (by omega) (by omega)) 21000 Z (js Z (jf [1,15,9,4,2,0] Z (jn (aa (af (ag Z (jn (ao Z (fun z22=>?_) (fun z22=>?_)))))))))))))
 exact absurd (bZ z22) (by omega)
 refine ac (af (bb Z (jf [25,24,21,1,15,9,4,2,0] Z (ba Z (c79 (ts:=a.pts) (k:=k+bv nT a.pre+bv nT a.post+bv fg a.code) h1 h2 (by omega) (by omega)) 27000 Z (js Z (jf [1,21,15,9,4,2,0] Z (jn (aa (af (ag Z (jn (ao Z (fun z28=>?_) (fun z28=>?_)))))))))))))
 exact absurd (bZ z28) (by omega)
 refine ac (af (ag Z (jf [4,27,1,21,15,9,2,0] Z (jr ?_))))
 refine aD Z ?_
 rfl
theorem lg{a:Bool}(h:(!a)=true):a=false:=by simpa using h
theorem pZ{a:Bool}(h:(!a)=false):a=true:=by simpa using h
theorem yD{a b:Bool}(h:(bif a then true else b)=false):a=false∧b=false:=by cases a<;>cases b<;>simp_all
theorem kk{a b:Bool}(h:(bif a then b else false)=true):a=true∧b=true:=by cases a<;>cases b<;>simp_all
theorem yw{a b:Bool}(h:(bif a then b else false)=false):(a&&b)=false:=by cases a<;>cases b<;>simp_all
theorem mt{α:Type}{p:α→Bool}{xs:List α}(j:Nat)(hj:j<xs.length)(h:p xs[j]=true):xs.any p=true:=List.any_eq_true.2 ⟨xs[j],List.getElem_mem _,h⟩
theorem ou{α:Type}{p:α→Bool}{xs:List α}(h: ∀j (hj:j<xs.length),p xs[j]=false):xs.any p=false:=List.any_eq_false.2 fun x hx=>by
 obtain⟨j,hj,rfl⟩:=List.mem_iff_getElem.1 hx
 rw[h j hj];decide
theorem t8(t:Tm):(bif !t.ok then true else decide ((4:Int)<t.xs.length))= !t.term:=by
 unfold Tm.term
 cases t.ok
 rfl
 by_cases h:(4:Int)<t.xs.length
 rw[decide_eq_true h,decide_eq_false (by omega)];rfl
 rw[decide_eq_false h,decide_eq_true (by omega)];rfl
theorem yf:MQ h1 h2 69 [.agg (x.cells.map .d)] [] (Plain (eB (aE x))):=by
 refine av ?_ Z
 refine jB 37 h1 h2 Tryz.func69 Z fun O hF=>?_
 refine af (jx Z (js Z (jn (aa (af (ag Z (jn (ah (aa (af (ag Z (jn (ao Z (fun z5=>?_) (fun z5=>?_))))))))))))))
 try simp only[aS]at z5
 refine ac (ao Z (fun z5=>?_) (fun z5=>?_))
 try simp only[aS]at z5
 refine af (ag Z (ba Z (n5 h1 h2) 11000 Z (js Z (jr ?_))))
 refine aD Z ?_
 unfold aE cH;simp_all
 try simp only[aS]at z5
 contradiction
 try simp only[aS]at z5
 refine ab (ag Z (jn (ao Z (fun z5=>?_) (fun z5=>?_))))
 try simp only[aS]at z5
 refine af (ag Z (ba Z (n5 h1 h2) 11000 Z (js Z (jr ?_))))
 refine aD Z ?_
 unfold aE cH;simp_all
 try simp only[aS]at z5
 refine aa (af (ag Z (jn (ao Z (fun z11=>?_) (fun z11=>?_)))))
 try simp only[aS]at z11
 refine ac (ao Z (fun z11=>?_) (fun z11=>?_))
 try simp only[aS]at z11
 refine af (ag Z (ba Z (qU h1 h2) 17000 Z (js Z (jr ?_))))
 refine aD Z ?_
 unfold aE cH;simp_all
 try simp only[aS]at z11
 contradiction
 try simp only[aS]at z11
 refine ab (ag Z (jn (ao Z (fun z11=>?_) (fun z11=>?_))))
 try simp only[aS]at z11
 refine af (ag Z (ba Z (qU h1 h2) 17000 Z (js Z (jr ?_))))
 refine aD Z ?_
 unfold aE cH;simp_all
 try simp only[aS]at z11
 refine aa (af (ag Z (jn (ao Z (fun z17=>?_) (fun z17=>?_)))))
 try simp only[aS]at z17
 refine ac (ao Z (fun z17=>?_) (fun z17=>?_))
 try simp only[aS]at z17
 refine af (ag Z (ba Z (qU h1 h2) 23000 Z (js Z (jr ?_))))
 refine aD Z ?_
 unfold aE cH;simp_all
 try simp only[aS]at z17
 contradiction
 try simp only[aS]at z17
 refine ab (ag Z (jn (ao Z (fun z17=>?_) (fun z17=>?_))))
 try simp only[aS]at z17
 refine af (ag Z (ba Z (qU h1 h2) 23000 Z (js Z (jr ?_))))
 refine aD Z ?_
 unfold aE cH;simp_all
 try simp only[aS]at z17
 refine af (ag Z (jn (ao Z (fun z23=>?_) (fun z23=>?_))))
 try simp only[aS]at z23
 refine af (ag Z (ba Z (qU h1 h2) 28000 Z (js Z (jr ?_))))
 refine aD Z ?_
 unfold aE cH;simp_all
 try simp only[aS]at z23
 refine aa (af (ag Z (jn (ao Z (fun z28=>?_) (fun z28=>?_)))))
 try simp only[aS]at z28
 refine ac (ao Z (fun z28=>?_) (fun z28=>?_))
 try simp only[aS]at z28
 refine af (bp Z (jr ?_))
 refine aD Z ?_
 unfold aE cH;simp_all
 try simp only[aS]at z28
 contradiction
 try simp only[aS]at z28
 refine af (ag Z (jn (ao Z (fun z28=>?_) (fun z28=>?_))))
 try simp only[aS]at z28
 refine ac (ao Z (fun z28=>?_) (fun z28=>?_))
 try simp only[aS]at z28
 refine af (bp Z (jr ?_))
 refine aD Z ?_
 unfold aE cH;simp_all
 try simp only[aS]at z28
 contradiction
 try simp only[aS]at z28
 refine af (ag Z (jn (ao Z (fun z28=>?_) (fun z28=>?_))))
 try simp only[aS]at z28
 refine ac (ao Z (fun z28=>?_) (fun z28=>?_))
 try simp only[aS]at z28
 refine af (bp Z (jr ?_))
 refine aD Z ?_
 unfold aE cH;simp_all
 try simp only[aS]at z28
 contradiction
 try simp only[aS]at z28
 refine af (ag Z (jn (ao Z (fun z28=>?_) (fun z28=>?_))))
 try simp only[aS]at z28
 refine ac (ao Z (fun z28=>?_) (fun z28=>?_))
 try simp only[aS]at z28
 refine af (bp Z (jr ?_))
 refine aD Z ?_
 unfold aE cH;simp_all
 try simp only[aS]at z28
 contradiction
 try simp only[aS]at z28
 refine ab (ag Z (jn (ao Z (fun z28=>?_) (fun z28=>?_))))
 try simp only[aS]at z28
 refine af (bp Z (jr ?_))
 refine aD Z ?_
 unfold aE cH;simp_all
 try simp only[aS]at z28
 refine ac (af (js Z (jr ?_)))
 refine aD Z ?_
 unfold aE cH;simp_all
theorem uq:MQ h1 h2 72 [.agg (x.cells.map .d)] [] (Plain (eB (bI x))):=by
 refine av ?_ Z
 refine jB 11 h1 h2 Tryz.func72 Z fun O hF=>?_
 refine af (jx Z (js Z (bm (bp Z (aX 3 Z Z Z (fun hx=>aF hx Z (aF hx Z (aF hx Z (AN.nil)))) Z Z ?_)))))
 first|refine ak (aK O Z Z Z Z Z) Z ?_|refine ak (Val.pickB O Z Z Z Z Z) Z ?_|refine ak (aI O Z Z Z Z Z) Z ?_
 refine js Z (jr ?_)
 refine aD Z ?_
 unfold bI;cases decide (x.op=5)<;>rfl
variable{c:List In}
theorem yr:MQ h1 h2 37 [cn c] [] (Plain (eB (dE c))):=by
 refine av ?_ Z
 refine jB 19 h1 h2 Tryz.func37 Z fun O hF=>?_
 have hl:c.length≤L:=by simpa[As.fact,A.fact,M.fact,D.fact,Ds.fact]using hF.1.1
 refine af (js Z (jn (aa (af (js Z (jn (ah (al (X:=Nat) (fun i=>⟨[(0,cn c),(3,eI i)],[]⟩) (fun i=>i≤c.length∧∀j (h:j<c.length),j<i→aE c[j]=true) (fun i=>c.length-i) 0 (Ent.env ⟨Z,Z,aj⟩) ?_ (fun i hi=>?_)))))))))
 exact⟨co _,fun j h hj=>absurd hj (Nat.not_lt_zero j)⟩
 refine aa (af (ag Z ?_))
 first|refine bP Z ?_|refine js Z ?_|refine aR Z Z ?_
 refine js Z (jn (ao Z (fun z7=>?_) (fun z7=>?_)))
 try simp only[aS]at z7
 refine ac (aa (ah (af (ag Z ?_))))
 first|refine er Z Z ?_|refine aR Z Z ?_
 refine js Z (ba Z (yf h1 h2) 15000 Z (js Z (jn (ao Z (fun z15=>?_) (fun z15=>?_)))))
 try simp only[aS]at z15
 refine af (js Z (jr ?_))
 refine aD Z ?_
 rw[Int.toNat_natCast,au (by omega)]at z15
 rw[dE,iJ i (by omega) z15,Bool.false_and]
 try simp only[aS]at z15
 refine ac (ab (js Z ?_))
 first|refine ji Z ?_|refine aR Z Z ?_
 refine js Z (jn ?_)
 refine⟨i+1,Ent.env ⟨Z,Z,aj⟩,⟨by omega,fun j h hj=>?_⟩,by omega⟩
 by_cases e:j=i
 subst e;rw[Int.toNat_natCast,au h]at z15;exact z15
 exact hi.2 j h (by omega)
 try simp only[aS]at z7
 refine aM (af (js Z ?_))
 first|refine bP Z ?_|refine js Z ?_|refine aR Z Z ?_
 refine ba Z (qU h1 h2) 19000 Z (js Z (jr ?_))
 refine aD Z ?_
 rw[dE,ku (fun j hj=>hi.2 j hj (by omega)),Bool.true_and]
 rfl
theorem q9{ts:List Tm}:MQ h1 h2 38 [ff ts] [] (Plain (eB (bQ ts 6))):=by
 refine av ?_ Z
 refine jB 27 h1 h2 Tryz.func38 Z fun O hF=>?_
 have hl:ts.length≤L:=by simpa[As.fact,A.fact,M.fact,D.fact,Ds.fact]using hF.1.1
 refine af (js Z (jn (aa (af (js Z (jn (ah (al (X:=Nat) (fun i=>⟨[(0,ff ts),(3,eI i)],[]⟩) (fun i=>i≤ts.length∧∀j (h:j<ts.length),j<i→Tm.term ts[j]=true) (fun i=>ts.length-i) 0 (Ent.env ⟨Z,Z,aj⟩) ?_ (fun i hi=>?_)))))))))
 exact⟨co _,fun j h hj=>absurd hj (Nat.not_lt_zero j)⟩
 refine aa (af (ag Z ?_))
 first|refine bP Z ?_|refine js Z ?_|refine aR Z Z ?_
 refine js Z (jf [7,0,3] Z (jn (ao Z (fun z7=>?_) (fun z7=>?_))))
 refine ac (aa (ah (af ?_)))
 have hil:i<ts.length:=by have:=bZ z7;omega
 refine ag Z ?_
 first|refine fO Z Z ?_|refine er Z Z ?_|refine aR Z Z ?_
 refine jf [12,7,0,3] Z (ba Z (yj (t:=ts.getD i default) h1 h2) 14000 Z (ag Z (jf [15,7,0,3] Z (aX 7 Z Z Z (fun hx=>aF hx Z (aF hx Z (ed hx (vN Z) Z (aF hx Z (aF hx Z (ed hx (bK O Z Z Z Z Z Z Z Z) Z (aF hx Z (AN.nil)))))))) Z Z ?_))))
 first|refine ak (aK O Z Z Z Z Z) Z ?_|refine ak (Val.pickB O Z Z Z Z Z) Z ?_|refine ak (aI O Z Z Z Z Z) Z ?_
 refine jf [23,7,0,3] Z (jn (ao Z (fun z23=>?_) (fun z23=>?_)))
 refine af (js Z (jr ?_))
 refine aD Z ?_
 have h9:=lg ((t8 _).symm.trans z23)
 rw[au hil]at h9
 rw[bQ,iJ i hil h9,Bool.false_and]
 refine ac (ab (js Z ?_))
 first|refine ji Z ?_|refine aR Z Z ?_
 refine js Z (jf [3,23,7,0] Z (jn ?_))
 refine⟨i+1,Ent.env ⟨Z,Z,aj⟩,⟨by omega,fun j h hj=>?_⟩,by omega⟩
 by_cases e:j=i
 subst e;rw[←au h];exact pZ ((t8 _).symm.trans z23)
 exact hi.2 j h (by omega)
 refine aM (af (js Z ?_))
 first|refine bP Z ?_|refine js Z ?_|refine aR Z Z ?_
 refine ag Z (jf [2,7,0,3] Z (jr ?_))
 refine aD Z ?_
 have h9:=cS z7
 rw[bQ,ku (fun j hj=>hi.2 j hj (by omega)),Bool.true_and]
theorem sN:MQ h1 h2 74 [ptr a.data,eI k] [] (Plain (eB (cT a.pts k))):=by
 refine av ?_ Z
 refine jB 25 h1 h2 Tryz.func74 Z fun O hF=>?_
 have hlp:a.pts.length≤L:=by simpa[As.fact,A.fact,M.fact,D.fact,Ds.fact]using hF.1.2.2.2.1.1
 refine af (js Z (jn (aa (af (js Z (jn (ah (al (X:=Nat) (fun i=>⟨[(0,ptr a.data),(1,eI k),(5,eI i)],[]⟩) (fun i=>i≤a.pts.length∧∀j (h:j<a.pts.length),j<i→(fun p:Pt=>decide (p.k=k)) a.pts[j]=false) (fun i=>a.pts.length-i) 0 (Ent.env ⟨Z,Z,Z,aj⟩) ?_ (fun i hi=>?_)))))))))
 exact⟨co _,fun j h hj=>absurd hj (Nat.not_lt_zero j)⟩
 refine aa (af (bp Z (js Z ?_)))
 first|refine bP Z ?_|refine js Z ?_|refine aR Z Z ?_
 refine js Z (jf [12,0,1,5] Z (jn (ao Z (fun z12=>?_) (fun z12=>?_))))
 refine ac (aa (ah (af ?_)))
 have hil:i<a.pts.length:=by have:=bZ z12;omega
 refine bp Z (js Z ?_)
 first|refine fO Z Z ?_|refine er Z Z ?_|refine aR Z Z ?_
 refine bp Z (jf [24,12,0,1,5] Z (jn (ao Z (fun z24=>?_) (fun z24=>?_))))
 refine af (js Z (jr ?_))
 refine aD Z ?_
 rw[show cT a.pts k=true from mt i hil (by rw[←au hil];exact z24)]
 refine ac (ab (js Z ?_))
 first|refine ji Z ?_|refine aR Z Z ?_
 refine js Z (jf [5,24,12,0,1] Z (jn ?_))
 refine⟨i+1,Ent.env ⟨Z,Z,Z,aj⟩,⟨by omega,fun j h hj=>?_⟩,by omega⟩
 by_cases e:j=i
 subst e;rw[←au h];exact z24
 exact hi.2 j h (by omega)
 refine aM (af (js Z (jr ?_)))
 refine aD Z ?_
 have h9:=cS z12
 rw[show cT a.pts k=false from ou fun j hj=>hi.2 j hj (by omega)]
theorem x6:MQ h1 h2 123 [ptr a.data,eI k] [] (Plain (eB (f8 a.code a.pts k))):=by
 refine av ?_ Z
 refine jB 38 h1 h2 Tryz.func123 Z fun O hF=>?_
 have hl:a.code.length≤L:=by simpa[As.fact,A.fact,M.fact,D.fact,Ds.fact]using hF.1.2.2.1.1
 refine af (js Z (jn (aa (af (js Z (jn (ah (al (X:=Nat) (fun i=>⟨[(0,ptr a.data),(1,eI k),(5,eI i)],[]⟩) (fun i=>i≤a.code.length∧∀j (h:j<a.code.length),j<i→(fun x:In=>bI x&&decide (x.a=k)) a.code[j]=false) (fun i=>a.code.length-i) 0 (Ent.env ⟨Z,Z,Z,aj⟩) ?_ (fun i hi=>?_)))))))))
 exact⟨co _,fun j h hj=>absurd hj (Nat.not_lt_zero j)⟩
 refine aa (af (bp Z (js Z ?_)))
 first|refine bP Z ?_|refine js Z ?_|refine aR Z Z ?_
 refine js Z (jf [12,0,1,5] Z (jn (ao Z (fun z12=>?_) (fun z12=>?_))))
 refine ac (aa (ah (af ?_)))
 have hil:i<a.code.length:=by have:=bZ z12;omega
 refine bp Z (js Z ?_)
 first|refine fO Z Z ?_|refine er Z Z ?_|refine aR Z Z ?_
 refine js Z (cy [(21,_),(12,_),(0,_),(1,_),(5,_)] [] ⟨Z,Z,Z,Z,Z,aj⟩ Z (ba Z (uq (x:=a.code.getD i default) h1 h2) 23000 Z (js Z (cy [(23,_),(12,_),(0,_),(1,_),(5,_)] [] ⟨Z,Z,Z,Z,Z,aj⟩ Z (aX 10 Z Z Z (fun hx=>aF hx Z (aF hx Z (aF hx Z (aF hx Z (aF hx Z (ed hx (vN Z) Z (aF hx Z (aF hx Z (aF hx Z (aF hx Z (AN.nil))))))))))) Z Z ?_)))))
 first|refine ak (aI O Z Z Z Z Z) Z ?_|refine ak (aK O Z Z Z Z Z) Z ?_|refine ak (Val.pickB O Z Z Z Z Z) Z ?_
 refine jf [34,12,0,1,5] Z (jn (ao Z (fun z34=>?_) (fun z34=>?_)))
 refine af (js Z (jr ?_))
 refine aD Z ?_
 obtain⟨h7,h8⟩:=kk z34
 have h9:fC a.code k=true:=mt i hil (by rw[←au hil,h7,h8];rfl)
 rw[show f8 a.code a.pts k=true by rw[f8,h9,Bool.true_or]]
 refine ac (ab (js Z ?_))
 first|refine ji Z ?_|refine aR Z Z ?_
 refine js Z (jf [5,34,12,0,1] Z (jn ?_))
 refine⟨i+1,Ent.env ⟨Z,Z,Z,aj⟩,⟨by omega,fun j h hj=>?_⟩,by omega⟩
 by_cases e:j=i
 subst e;rw[←au h];exact(yw z34)
 exact hi.2 j h (by omega)
 refine aM (af (ag Z (ba Z (sN (a:=a) (k:=k) h1 h2) 38000 Z (js Z (jf [4,12,0,1,5] Z (jr ?_))))))
 refine aD Z ?_
 have h9:=cS z12
 rw[show f8 a.code a.pts k=cT a.pts k by rw[f8,show fC a.code k=false from ou fun j hj=>hi.2 j hj (by omega),Bool.false_or]]
theorem dC{a b:Bool}(h:(bif a then b else false)=false): ¬(a=true∧b=true):=by cases a<;>cases b<;>simp_all
def lr(c:List In)(ps:List Pt)(k i:Nat):List In:=if i=0 then dA c ps k else gL (f8 c ps) (k+i) (c.drop (k+i))
theorem lF{c:List In}{ps:List Pt}{k i:Nat}{os:List Int}(hk:k+i<c.length)(hi:i<os.length) :
    bf (os.drop i) (lr c ps k i)=(bif !decide ((c.getD (k+i) default).op=os.getD i default)then false else bif (bif decide ((0:Int)<i)then f8 c ps ((k+i:Nat):Int)else false)then false else bf (os.drop (i+1)) (lr c ps k (i+1))):=by
 rw[List.drop_eq_getElem_cons hi,au hk,au hi]
 have e1:lr c ps k (i+1)=gL (f8 c ps) (k+i+1) (c.drop (k+i+1)):=if_neg (by omega)
 have e0:lr c ps k i=if i≠0∧f8 c ps ((k+i:Nat):Int)=true then[]else c[k+i]::gL (f8 c ps) (k+i+1) (c.drop (k+i+1)):=by
  unfold lr
  by_cases h:i=0
  subst h
  rw[if_pos Z,if_neg (by simp),dA,List.drop_eq_getElem_cons (show k<c.length by omega)]
  rfl
  rw[if_neg h,List.drop_eq_getElem_cons hk,gL]
  by_cases h2:f8 c ps ((k+i:Nat):Int)=true
  rw[if_pos h2,if_pos ⟨h,h2⟩]
  rw[if_neg h2,if_neg (fun h3=>h2 h3.2)]
 rw[e0,e1]
 by_cases h:i=0
 subst h
 rw[if_neg (by simp),bf]
 cases decide ((c[k+0]).op=os[0])<;>simp
 rw[decide_eq_true (show(0:Int)<i by omega)]
 cases h2:f8 c ps ((k+i:Nat):Int)with
 | true=>rw[if_pos ⟨h,rfl⟩];cases decide ((c[k+i]).op=os[i])<;>rfl
 | false=>rw[if_neg (by simp),bf];cases decide ((c[k+i]).op=os[i])<;>rfl
theorem sg{c:List In}{ps:List Pt}{k:Nat}{os:List Int}(h:c.length<k+os.length)(hk:k<c.length):bf os (dA c ps k)=false:=by
 cases e:bf os (dA c ps k)with
 | false=>rfl
 | true=>have h1:=bG e;have h2:=fQ (c:=c) (ps:=ps) (k:=k);omega
variable{os:List Int}
theorem kj{k:Nat}(hk:k<a.code.length):MQ h1 h2 105 [ptr a.data,eI k,cq os] [] (Plain (eB (bf os (dA a.code a.pts k)))):=by
 refine av ?_ Z
 refine jB 50 h1 h2 Tryz.func105 Z fun O hF=>?_
 have hl:a.code.length≤L:=by simpa[As.fact,A.fact,M.fact,D.fact,Ds.fact]using hF.1.2.2.1.1
 have hlo:os.length≤L:=by simpa[As.fact,A.fact,M.fact,D.fact,Ds.fact]using hF.2.2.1.1
 refine af (js Z (jn (aa (af (ag Z ?_)))))
 first|refine bP Z ?_|refine js Z ?_|refine aR Z Z ?_
 first|refine ji Z ?_|refine aR Z Z ?_
 refine bp Z ?_
 first|refine bP Z ?_|refine js Z ?_|refine aR Z Z ?_
 refine js Z (jf [17,6,0,1,2] Z (jn (ao Z (fun z17=>?_) (fun z17=>?_))))
 refine af (js Z (jr ?_))
 refine aD Z ?_
 rw[sg (by have:=bZ z17;omega) hk]
 refine ac (aa (af (js Z (jn (ah (al (X:=Nat) (fun i=>⟨[(0,ptr a.data),(1,eI k),(2,cq os),(7,eI i)],[]⟩) (fun i=>i≤os.length∧bf (os.drop i) (lr a.code a.pts k i)=bf os (dA a.code a.pts k)) (fun i=>os.length-i) 0 (Ent.env ⟨Z,Z,Z,Z,aj⟩) ?_ (fun i hi=>?_)))))))
 exact⟨co _,by rw[List.drop_zero];rfl⟩
 refine aa (af ?_)
 have h17:=cS z17
 refine ag Z ?_
 first|refine bP Z ?_|refine js Z ?_|refine aR Z Z ?_
 refine js Z (jf [21,0,1,2,7] Z (jn (ao Z (fun z21=>?_) (fun z21=>?_))))
 refine ac (aa (ah (aa ?_)))
 have hil:i<os.length:=by have:=bZ z21;omega
 have hki:k+i<a.code.length:=by omega
 refine bu (F:=⟨[(49,eB (bif !decide ((a.code.getD (k+i) default).op=os.getD i default)then true else(bif decide ((0:Int)<i)then f8 a.code a.pts ((k+i:Nat):Int)else false))),(0,ptr a.data),(1,eI k),(2,cq os),(7,eI i)],[]⟩) ?_ ?_
 cases hb6:!decide ((a.code.getD (k+i) default).op=os.getD i default)with
 | true=>
  refine jV [_,_,_,_,_,_,_,_,_,_,_,_,_,_,_,_,_,_,_,_,_,_,_,_,_,_] [aN,ar [0],ar [0,1],ar [0,1,2],aN,aN,ar [4,5],ar (rg 0 7),ar (rg 0 8),ar (rg 0 9),aN,aN,ar [10,11],ar [10,11,12],ar (rg 0 14),ar (rg 0 15),ar (rg 0 16),ar (rg 0 17),ar (rg 0 18),ar (rg 0 19),ar (rg 0 19),ar (rg 0 19),ar (rg 0 19++[20,21]),ar (rg 0 23),ar (rg 0 24),ar (rg 0 25)] [] [_] (kc Z (kc Z (kc Z (kc Z (kc Z (kc Z (ai ((vF Z).cast (v':=eI ((k+i:Nat):Int)) (congrArg eI (by omega))) (ai (vN Z) (kc Z (kc Z (kc Z (kc Z (ai (vN Z) (kc Z (kc Z (ai ((V Z).cast (v':=eB true) (congrArg eB hb6)) (ai ⟨Z,Z⟩ (ai ⟨Z,Z⟩ (ai ⟨Z,Z⟩ (ai ⟨Z,Z⟩ (ai ⟨Z,Z⟩ (ai ⟨Z,Z⟩ (ai ⟨Z,Z⟩ (ai ⟨Z,Z⟩ (ai ⟨Z,Z⟩ (ai (aB O Z Z Z Z Z) trivial)))))))))))))))))))))))))) ?_
  exact⟨Z,Ent.env ⟨Z,Z,Z,Z,Z,aj⟩⟩
 | false=>
  cases hb6b:decide ((0:Int)<i)with
  | true=>
   refine jV [_,_,_,_,_,_,_,_,_,_,_,_,_,_,_,_,_,_,_,_,_,_,_,_,_,_] [aN,ar [0],ar [0,1],ar [0,1,2],aN,aN,ar [4,5],ar (rg 0 7),ar (rg 0 8),ar (rg 0 9),aN,aN,ar [10,11],ar [10,11,12],ar (rg 0 14),ar (rg 0 15),ar (rg 0 16),ar (rg 0 17),ar (rg 0 18),ar (rg 0 19),ar (rg 0 19),ar (rg 0 19),ar (rg 0 19++[20,21]),pe (rg 0 23) 0,pn (rg 0 24) 1 1,pn (rg 0 25) 1 1] [23] [_,_] (kc Z (kc Z (kc Z (kc Z (kc Z (kc Z (ai ((vF Z).cast (v':=eI ((k+i:Nat):Int)) (congrArg eI (by omega))) (ai (vN Z) (kc Z (kc Z (kc Z (kc Z (ai (vN Z) (kc Z (kc Z (ai ((V Z).cast (v':=eB false) (congrArg eB hb6)) (kc Z (kc Z (ai ((V Z).cast (v':=eB true) (congrArg eB hb6b)) (kc Z (kc Z (kc Z (ai ((vF Z).cast (v':=eI ((k+i:Nat):Int)) (congrArg eI (by omega))) (ai (aG O (B0:=48000) Z Z Z Z (x6 (a:=a) (k:=((k+i:Nat):Int)) h1 h2) (ae Z) Z Z Z Z Z) (ai (aB O Z Z Z Z Z) (ai (ap O Z Z Z Z Z) trivial)))))))))))))))))))))))))) ?_
   exact⟨Z,Ent.env ⟨Z,Z,Z,Z,Z,aj⟩⟩
  | false=>
   refine jV [_,_,_,_,_,_,_,_,_,_,_,_,_,_,_,_,_,_,_,_,_,_,_,_,_,_] [aN,ar [0],ar [0,1],ar [0,1,2],aN,aN,ar [4,5],ar (rg 0 7),ar (rg 0 8),ar (rg 0 9),aN,aN,ar [10,11],ar [10,11,12],ar (rg 0 14),ar (rg 0 15),ar (rg 0 16),ar (rg 0 17),ar (rg 0 18),ar (rg 0 19),ar (rg 0 19),ar (rg 0 19),ar (rg 0 19++[20,21]),ar (rg 0 23),ar (rg 0 24),ar (rg 0 25)] [] [_] (kc Z (kc Z (kc Z (kc Z (kc Z (kc Z (ai ((vF Z).cast (v':=eI ((k+i:Nat):Int)) (congrArg eI (by omega))) (ai (vN Z) (kc Z (kc Z (kc Z (kc Z (ai (vN Z) (kc Z (kc Z (ai ((V Z).cast (v':=eB false) (congrArg eB hb6)) (kc Z (kc Z (ai ((V Z).cast (v':=eB false) (congrArg eB hb6b)) (ai ⟨Z,Z⟩ (ai ⟨Z,Z⟩ (ai ⟨Z,Z⟩ (ai ⟨Z,Z⟩ (ai ⟨Z,Z⟩ (ai (ap O Z Z Z Z Z) (ai (ap O Z Z Z Z Z) trivial)))))))))))))))))))))))))) ?_
   exact⟨Z,Ent.env ⟨Z,Z,Z,Z,Z,aj⟩⟩
 refine ao Z (fun z49=>?_) (fun z49=>?_)
 refine af (js Z (jr ?_))
 refine aD Z ?_
 have h9:=lF (ps:=a.pts) hki hil
 rw[←hi.2,h9]
 generalize (!decide ((a.code.getD (k+i) default).op=os.getD i default))=b1 at z49 ⊢
 generalize (bif decide ((0:Int)<i)then f8 a.code a.pts ((k+i:Nat):Int)else false)=b2 at z49 ⊢
 cases b1<;>cases b2<;>simp_all
 refine ac (ab (js Z ?_))
 first|refine ji Z ?_|refine aR Z Z ?_
 refine js Z (jf [7,49,0,1,2] Z (jn ?_))
 have h9:=lF (ps:=a.pts) hki hil
 obtain⟨h7,h8⟩:=yD z49
 rw[h7,show(bif decide ((0:Int)<i)then f8 a.code a.pts ((k+i:Nat):Int)else false)=false from h8]at h9
 exact⟨i+1,Ent.env ⟨Z,Z,Z,Z,aj⟩,⟨by omega,h9.symm.trans hi.2⟩,by omega⟩
 refine aM (af (js Z (jr ?_)))
 refine aD Z ?_
 obtain rfl:i=os.length:=by have:=cS z21;omega
 rw[←hi.2,List.drop_length]
 rfl
theorem yx{a:An}{i:Nat}:(bif (bif !(decide (0≤(a.pts.getD i default).k)&&decide ((a.pts.getD i default).k≤(a.code.length:Int)-1))then true else !bQ (a.pts.getD i default).fs 6)then true else(bif decide ((0:Int)<i)then decide ((a.pts.getD i default).k≤(a.pts.getD (i-1) default).k)else false))= !nW a.code.length a.pts i:=by
 unfold nW cH
 rw[show decide ((0:Int)<i)=decide (0<i)from decide_eq_decide.2 (by omega)]
 cases decide (0≤(a.pts.getD i default).k)<;>cases decide ((a.pts.getD i default).k≤(a.code.length:Int)-1)<;>cases bQ (a.pts.getD i default).fs 6<;>cases decide (0<i)<;>cases decide ((a.pts.getD i default).k≤(a.pts.getD (i-1) default).k)<;>rfl
theorem rN{a:An}(h:(bif (bif (bif !dE a.code then true else !bQ a.pre 6)then true else !bQ a.post 6)then true else decide ((8:Int)<a.pts.length))=true):bB a=false:=by
 unfold bB
 rw[show decide (a.pts.length≤8)= !decide ((8:Int)<a.pts.length) by rw[←decide_not];exact decide_eq_decide.2 (by omega)]
 generalize dE a.code=b1 at h ⊢
 generalize bQ a.pre 6=b2 at h ⊢
 generalize bQ a.post 6=b3 at h ⊢
 generalize decide ((8:Int)<a.pts.length)=b at h ⊢
 cases b1<;>cases b2<;>cases b3<;>cases b<;>simp_all
theorem iI{a:An}(h:(bif (bif (bif !dE a.code then true else !bQ a.pre 6)then true else !bQ a.post 6)then true else decide ((8:Int)<a.pts.length))=false):bB a=n3 a.code.length a.pts∧a.pts.length≤8∧dE a.code=true:=by
 unfold bB
 rw[show decide (a.pts.length≤8)= !decide ((8:Int)<a.pts.length) by rw[←decide_not];exact decide_eq_decide.2 (by omega)]
 generalize dE a.code=b1 at h ⊢
 generalize bQ a.pre 6=b2 at h ⊢
 generalize bQ a.post 6=b3 at h ⊢
 by_cases hb:(8:Int)<a.pts.length
 rw[decide_eq_true hb]at h
 cases b1<;>cases b2<;>cases b3<;>cases h
 rw[decide_eq_false hb]at h ⊢
 have h9:a.pts.length≤8:=by omega
 cases b1<;>cases b2<;>cases b3<;>simp_all
theorem lO{c:List In}(h:dE c=true):1≤c.length∧c.length≤80:=by
 simp only[dE,cH,bD,decide_eq_true_eq]at h;omega
theorem yM:MQ h1 h2 14 [ptr a.data] [] (Plain (eB (bB a))):=by
 refine av ?_ Z
 refine jB 90 h1 h2 Tryz.func14 Z fun O hF=>?_
 have hl:a.code.length≤L:=by simpa[As.fact,A.fact,M.fact,D.fact,Ds.fact]using hF.1.2.2.1.1
 have hlp:a.pts.length≤L:=by simpa[As.fact,A.fact,M.fact,D.fact,Ds.fact]using hF.1.2.2.2.1.1
 refine af (js Z (jn (aa (af (bp Z (cy [(8,_),(2,_),(0,_)] [] ⟨Z,Z,Z,aj⟩ Z (ba Z (yr h1 h2) 10000 Z (ag Z (cy [(11,_),(2,_),(0,_)] [] ⟨Z,Z,Z,aj⟩ Z (aX 6 Z Z Z (fun hx=>aF hx Z (aF hx Z (aF hx Z (aF hx Z (cd O hx Z Z Z Z (q9 h1 h2) (ae Z) Z Z Z Z Z Z Z (B0:=17000) Z (aF hx Z (AN.nil))))))) Z Z ?_))))))))))
 first|refine ak (aK O Z Z Z Z Z) Z ?_|refine ak (Val.pickB O Z Z Z Z Z) Z ?_|refine ak (aI O Z Z Z Z Z) Z ?_
 refine js Z (cy [(19,_),(2,_),(0,_)] [] ⟨Z,Z,Z,aj⟩ Z (aX 6 Z Z Z (fun hx=>aF hx Z (aF hx Z (aF hx Z (aF hx Z (cd O hx Z Z Z Z (q9 h1 h2) (ae Z) Z Z Z Z Z Z Z (B0:=25000) Z (aF hx Z (AN.nil))))))) Z Z ?_))
 first|refine ak (aK O Z Z Z Z Z) Z ?_|refine ak (Val.pickB O Z Z Z Z Z) Z ?_|refine ak (aI O Z Z Z Z Z) Z ?_
 refine js Z (cy [(27,_),(2,_),(0,_)] [] ⟨Z,Z,Z,aj⟩ Z (aX 6 Z Z Z (fun hx=>aF hx Z (aF hx Z (aF hx Z (aF hx Z (ed hx (bK O Z Z Z Z Z Z Z Z) Z (aF hx Z (AN.nil))))))) Z Z ?_))
 first|refine ak (aK O Z Z Z Z Z) Z ?_|refine ak (Val.pickB O Z Z Z Z Z) Z ?_|refine ak (aI O Z Z Z Z Z) Z ?_
 refine jf [34,2,0] Z (jn (ao Z (fun z34=>?_) (fun z34=>?_)))
 refine af (js Z (jr ?_))
 refine aD Z ?_
 rw[rN z34]
 refine ac (aa (af (js Z (jn (ah (al (X:=Nat) (fun i=>⟨[(0,ptr a.data),(3,eI i)],[]⟩) (fun i=>i≤a.pts.length∧∀j,j<i→nW a.code.length a.pts j=true) (fun i=>a.pts.length-i) 0 (Ent.env ⟨Z,Z,aj⟩) ?_ (fun i hi=>?_)))))))
 exact⟨co _,fun j hj=>absurd hj (Nat.not_lt_zero j)⟩
 refine aa (af (bp Z (js Z ?_)))
 first|refine bP Z ?_|refine js Z ?_|refine aR Z Z ?_
 refine js Z (jf [41,0,3] Z (jn (ao Z (fun z41=>?_) (fun z41=>?_))))
 refine ac (aa (ah (af ?_)))
 have hil:i<a.pts.length:=by have:=bZ z41;omega
 refine bp Z (js Z ?_)
 first|refine fO Z Z ?_|refine er Z Z ?_|refine aR Z Z ?_
 refine js Z (jf [4,41,0,3] Z (jn (aa (bu (F:=⟨[(89,eB (bif (bif !(decide (0≤(a.pts.getD i default).k)&&decide ((a.pts.getD i default).k≤(a.code.length:Int)-1))then true else !bQ (a.pts.getD i default).fs 6)then true else(bif decide ((0:Int)<i)then decide ((a.pts.getD i default).k≤(a.pts.getD (i-1) default).k)else false))),(0,ptr a.data),(3,eI i)],[]⟩) ?_ ?_))))
 cases hb7:!(decide (0≤(a.pts.getD i default).k)&&decide ((a.pts.getD i default).k≤(a.code.length:Int)-1))with
 | true=>
  refine jV (_::_::_::_::_::_::_::_::_::_::_::_::_::_::_::_::_::_::_::_::_::_::_::_::_::_::_::_::_::_::_::_::_::_::_::_::_::_::_::_::[]) (aN::ar [0]::ar [0,1]::ar [0,1,2]::aN::ar [4]::ar [4,5]::ar [4,5,6]::ar (rg 4 4)::ar (rg 4 5)::pe (rg 0 10) 0::pn (rg 0 11) 1 1::pn (rg 0 12) 1 1::pn (rg 0 13) 0 1::pn (rg 0 14) 0 1::pn (rg 0 15) 0 1::pn (rg 0 16) 0 1::pn (rg 0 17) 0 1::pn (rg 0 18) 0 1::pn (rg 0 19) 1 1::pn (rg 0 20) 1 1::pn (rg 0 21) 0 1::pn (rg 0 22) 0 1::pn (rg 0 23) 0 1::pn (rg 0 24) 0 1::pn (rg 0 25) 0 1::pn (rg 0 26) 0 1::pn (rg 0 27) 0 1::pn (rg 0 24) 0 1::pn (rg 0 24++[28]) 0 1::pn (rg 0 30) 0 1::pn (rg 0 31) 0 1::pn (rg 0 32) 0 1::pn (rg 0 24) 0 1::pn (rg 0 24++[33]) 0 1::pn (rg 0 24++[33,34]) 0 1::pn (rg 0 24++[33,34,35]) 0 1::pn (rg 0 37) 0 1::pn (rg 0 38) 0 1::pn (rg 0 39) 1 1::[]) [10] [_,_] (kc Z (kc Z (kc Z (kc Z (kc Z (kc Z (kc Z (kc Z (ai (bK O Z Z Z Z Z Z Z Z) (ai (vF Z) (ai (aG O (B0:=61000) Z Z Z Z (qU h1 h2) (ae Z) Z Z Z Z Z) (kc Z (ai ((V Z).cast (v':=eB true) (congrArg eB hb7)) (ai ⟨Z,Z⟩ (ai ⟨Z,Z⟩ (ai ⟨Z,Z⟩ (ai ⟨Z,Z⟩ (ai ⟨Z,Z⟩ (ai ⟨Z,Z⟩ (ai (aB O Z Z Z Z Z) (kc Z (ai ⟨Z,Z⟩ (ai ⟨Z,Z⟩ (ai ⟨Z,Z⟩ (ai ⟨Z,Z⟩ (ai ⟨Z,Z⟩ (ai ⟨Z,Z⟩ (ai ⟨Z,Z⟩ (ai ⟨Z,Z⟩ (ai ⟨Z,Z⟩ (ai ⟨Z,Z⟩ (ai ⟨Z,Z⟩ (ai ⟨Z,Z⟩ (ai ⟨Z,Z⟩ (ai ⟨Z,Z⟩ (ai ⟨Z,Z⟩ (ai ⟨Z,Z⟩ (ai ⟨Z,Z⟩ (ai ⟨Z,Z⟩ (ai (aB O Z Z Z Z Z) trivial)))))))))))))))))))))))))))))))))))))))) ?_
  exact⟨Z,Ent.env ⟨Z,Z,Z,aj⟩⟩
 | false=>
  cases hb7b:!bQ (a.pts.getD i default).fs 6 with
  | true=>
   refine jV (_::_::_::_::_::_::_::_::_::_::_::_::_::_::_::_::_::_::_::_::_::_::_::_::_::_::_::_::_::_::_::_::_::_::_::_::_::_::_::_::[]) (aN::ar [0]::ar [0,1]::ar [0,1,2]::aN::ar [4]::ar [4,5]::ar [4,5,6]::ar (rg 4 4)::ar (rg 4 5)::pe (rg 0 10) 0::pn (rg 0 11) 1 1::pn (rg 0 12) 1 1::pn (rg 0 13) 1 1::pn (rg 0 14) 1 1::pn (rg 0 15) 1 1::pn (rg 0 16) 1 1::pe (rg 0 17) 1::pn (rg 0 18) 2 2::pn (rg 0 19) 2 2::pn (rg 0 20) 2 2::pn (rg 0 21) 0 2::pn (rg 0 22) 0 2::pn (rg 0 23) 0 2::pn (rg 0 24) 0 2::pn (rg 0 25) 0 2::pn (rg 0 26) 0 2::pn (rg 0 27) 0 2::pn (rg 0 24) 0 2::pn (rg 0 24++[28]) 0 2::pn (rg 0 30) 0 2::pn (rg 0 31) 0 2::pn (rg 0 32) 0 2::pn (rg 0 24) 0 2::pn (rg 0 24++[33]) 0 2::pn (rg 0 24++[33,34]) 0 2::pn (rg 0 24++[33,34,35]) 0 2::pn (rg 0 37) 0 2::pn (rg 0 38) 0 2::pn (rg 0 39) 2 2::[]) [10,17] [_,_,_] (kc Z (kc Z (kc Z (kc Z (kc Z (kc Z (kc Z (kc Z (ai (bK O Z Z Z Z Z Z Z Z) (ai (vF Z) (ai (aG O (B0:=61000) Z Z Z Z (qU h1 h2) (ae Z) Z Z Z Z Z) (kc Z (ai ((V Z).cast (v':=eB false) (congrArg eB hb7)) (kc Z (kc Z (kc Z (kc Z (ai (aG O (B0:=68000) Z Z Z Z (q9 h1 h2) (ae Z) Z Z Z Z Z) (kc Z (ai (ap O Z Z Z Z Z) (ai ((V Z).cast (v':=eB true) (congrArg eB hb7b)) (ai ⟨Z,Z⟩ (ai ⟨Z,Z⟩ (ai ⟨Z,Z⟩ (ai ⟨Z,Z⟩ (ai ⟨Z,Z⟩ (ai ⟨Z,Z⟩ (ai ⟨Z,Z⟩ (ai ⟨Z,Z⟩ (ai ⟨Z,Z⟩ (ai ⟨Z,Z⟩ (ai ⟨Z,Z⟩ (ai ⟨Z,Z⟩ (ai ⟨Z,Z⟩ (ai ⟨Z,Z⟩ (ai ⟨Z,Z⟩ (ai ⟨Z,Z⟩ (ai ⟨Z,Z⟩ (ai ⟨Z,Z⟩ (ai (aB O Z Z Z Z Z) trivial)))))))))))))))))))))))))))))))))))))))) ?_
   exact⟨Z,Ent.env ⟨Z,Z,Z,aj⟩⟩
  | false=>
   cases hb7c:decide ((0:Int)<i)with
   | true=>
    have hi0:0<i:=by have:=bZ hb7c;omega
    refine jV (_::_::_::_::_::_::_::_::_::_::_::_::_::_::_::_::_::_::_::_::_::_::_::_::_::_::_::_::_::_::_::_::_::_::_::_::_::_::_::_::[]) (aN::ar [0]::ar [0,1]::ar [0,1,2]::aN::ar [4]::ar [4,5]::ar [4,5,6]::ar (rg 4 4)::ar (rg 4 5)::pe (rg 0 10) 0::pn (rg 0 11) 1 1::pn (rg 0 12) 1 1::pn (rg 0 13) 1 1::pn (rg 0 14) 1 1::pn (rg 0 15) 1 1::pn (rg 0 16) 1 1::pe (rg 0 17) 1::pn (rg 0 18) 2 2::pn (rg 0 19) 2 2::pn (rg 0 20) 2 2::pn (rg 0 21) 2 2::pn (rg 0 22) 2 2::pn (rg 0 23) 2 2::pn (rg 0 24) 2 2::pn (rg 0 25) 2 2::pn (rg 0 26) 2 2::pn (rg 0 27) 2 2::pn (rg 0 24) 2 2::pn (rg 0 24++[28]) 2 2::pn (rg 0 30) 2 2::pn (rg 0 31) 2 2::pn (rg 0 32) 2 2::pn (rg 0 24) 2 2::pn (rg 0 24++[33]) 2 2::pn (rg 0 24++[33,34]) 2 2::pn (rg 0 24++[33,34,35]) 2 2::pn (rg 0 37) 2 2::pn (rg 0 38) 2 2::pn (rg 0 39) 2 2::[]) [10,17] [_,_,_] (kc Z (kc Z (kc Z (kc Z (kc Z (kc Z (kc Z (kc Z (ai (bK O Z Z Z Z Z Z Z Z) (ai (vF Z) (ai (aG O (B0:=61000) Z Z Z Z (qU h1 h2) (ae Z) Z Z Z Z Z) (kc Z (ai ((V Z).cast (v':=eB false) (congrArg eB hb7)) (kc Z (kc Z (kc Z (kc Z (ai (aG O (B0:=68000) Z Z Z Z (q9 h1 h2) (ae Z) Z Z Z Z Z) (kc Z (ai (ap O Z Z Z Z Z) (ai ((V Z).cast (v':=eB false) (congrArg eB hb7b)) (kc Z (kc Z (ai ((V Z).cast (v':=eB true) (congrArg eB hb7c)) (kc Z (kc Z (kc Z (kc Z (kc Z (ai ((vF Z).cast (v':=eI ((i-1:Nat):Int)) (congrArg eI (by omega))) (ai (vN Z) (kc Z (kc Z (kc Z (kc Z (kc Z (kc Z (kc Z (ai (aB O Z Z Z Z Z) (ai (ap O Z Z Z Z Z) trivial)))))))))))))))))))))))))))))))))))))))) ?_
    exact⟨Z,Ent.env ⟨Z,Z,Z,aj⟩⟩
   | false=>
    refine jV (_::_::_::_::_::_::_::_::_::_::_::_::_::_::_::_::_::_::_::_::_::_::_::_::_::_::_::_::_::_::_::_::_::_::_::_::_::_::_::_::[]) (aN::ar [0]::ar [0,1]::ar [0,1,2]::aN::ar [4]::ar [4,5]::ar [4,5,6]::ar (rg 4 4)::ar (rg 4 5)::pe (rg 0 10) 0::pn (rg 0 11) 1 1::pn (rg 0 12) 1 1::pn (rg 0 13) 1 1::pn (rg 0 14) 1 1::pn (rg 0 15) 1 1::pn (rg 0 16) 1 1::pe (rg 0 17) 1::pn (rg 0 18) 2 2::pn (rg 0 19) 2 2::pn (rg 0 20) 2 2::pn (rg 0 21) 2 2::pn (rg 0 22) 2 2::pn (rg 0 23) 2 2::pn (rg 0 24) 0 2::pn (rg 0 25) 0 2::pn (rg 0 26) 0 2::pn (rg 0 27) 0 2::pn (rg 0 24) 0 2::pn (rg 0 24++[28]) 0 2::pn (rg 0 30) 0 2::pn (rg 0 31) 0 2::pn (rg 0 32) 0 2::pn (rg 0 24) 0 2::pn (rg 0 24++[33]) 0 2::pn (rg 0 24++[33,34]) 0 2::pn (rg 0 24++[33,34,35]) 0 2::pn (rg 0 37) 0 2::pn (rg 0 38) 2 2::pn (rg 0 39) 2 2::[]) [10,17] [_,_,_] (kc Z (kc Z (kc Z (kc Z (kc Z (kc Z (kc Z (kc Z (ai (bK O Z Z Z Z Z Z Z Z) (ai (vF Z) (ai (aG O (B0:=61000) Z Z Z Z (qU h1 h2) (ae Z) Z Z Z Z Z) (kc Z (ai ((V Z).cast (v':=eB false) (congrArg eB hb7)) (kc Z (kc Z (kc Z (kc Z (ai (aG O (B0:=68000) Z Z Z Z (q9 h1 h2) (ae Z) Z Z Z Z Z) (kc Z (ai (ap O Z Z Z Z Z) (ai ((V Z).cast (v':=eB false) (congrArg eB hb7b)) (kc Z (kc Z (ai ((V Z).cast (v':=eB false) (congrArg eB hb7c)) (ai ⟨Z,Z⟩ (ai ⟨Z,Z⟩ (ai ⟨Z,Z⟩ (ai ⟨Z,Z⟩ (ai ⟨Z,Z⟩ (ai ⟨Z,Z⟩ (ai ⟨Z,Z⟩ (ai ⟨Z,Z⟩ (ai ⟨Z,Z⟩ (ai ⟨Z,Z⟩ (ai ⟨Z,Z⟩ (ai ⟨Z,Z⟩ (ai ⟨Z,Z⟩ (ai ⟨Z,Z⟩ (ai (ap O Z Z Z Z Z) (ai (ap O Z Z Z Z Z) trivial)))))))))))))))))))))))))))))))))))))))) ?_
    exact⟨Z,Ent.env ⟨Z,Z,Z,aj⟩⟩
 refine ao Z (fun z89=>?_) (fun z89=>?_)
 refine af (js Z (jr ?_))
 refine aD Z ?_
 rw[(iI z34).1,m6 i hil (lg (yx.symm.trans z89))]
 refine ac (ab (js Z ?_))
 first|refine ji Z ?_|refine aR Z Z ?_
 refine js Z (jf [3,89,0] Z (jn ?_))
 have h9:nW a.code.length a.pts i=true:=pZ (yx.symm.trans z89)
 refine⟨i+1,Ent.env ⟨Z,Z,aj⟩,⟨by omega,fun j hj=>?_⟩,by omega⟩
 by_cases e:j=i
 subst e;exact h9
 exact hi.2 j (by omega)
 refine aM (af (js Z (jr ?_)))
 refine aD Z ?_
 rw[(iI z34).1,pC fun j hj=>hi.2 j (by have:=cS z41;omega)]
def bX(x y z:In)(H:List Int→Bool):Nat×List In:=
  if H [0,4]=true∧fN (x.a*y.a)=true then(2,[⟨0,x.a*y.a⟩])
  else if H [0,0,3]=true∧fN (x.a+y.a)=true then(3,[⟨0,x.a+y.a⟩])
  else if H [0,1,3]=true∧x.a=0 then(3,[y])
  else if H [0,1,4,3]=true∧x.a=0 then(4,[y,z])
  else if(bi x=true∨x.op=4)∧H [x.op,0,3]=true∧y.a=0 then(3,[x])
  else if bi x=true∧H [x.op,4]=true∧y.a=1 then(2,[x])
  else if H [4,4]=true∧fN (x.a*y.a)=true then(2,[⟨4,x.a*y.a⟩])
  else(0,[])
theorem ij{s:List In}{os:List Int}(h:s.length<os.length):bf os s=false:=by
 cases e:bf os s with
 | false=>rfl
 | true=>have:=bG e;omega
theorem s8{x y y' z z':In}{H:List Int→Bool}(h: ∀os,2≤os.length→H os=false):bX x y z H=bX x y' z' H:=by
 unfold bX
 rw[h [0,4] (by decide),h [0,0,3] (by decide),h [0,1,3] (by decide),h [0,1,4,3] (by decide),h [x.op,0,3] (Nat.le_add_left 2 1),h [x.op,4] (cm 2),h [4,4] (by decide)]
 simp
theorem s7{x y z z':In}{H:List Int→Bool}(h: ∀os,3≤os.length→H os=false):bX x y z H=bX x y z' H:=by
 unfold bX
 rw[h [0,1,4,3] (by decide)]
 simp
theorem cP{c:List In}{ps:List Pt}{k:Nat}(hk:k<c.length):eM (dA c ps k)=bX (c.getD k default) (c.getD (k+1) default) (c.getD (k+2) default) (fun os=>bf os (dA c ps k)):=by
 have e:eM (dA c ps k)=bX ((dA c ps k).getD 0 default) ((dA c ps k).getD 1 default) ((dA c ps k).getD 2 default) (fun os=>bf os (dA c ps k)):=rfl
 rw[e,dW (mb hk)]
 rcases Nat.lt_or_ge 1 (dA c ps k).length with h1|h1
 rw[dW h1]
 rcases Nat.lt_or_ge 2 (dA c ps k).length with h2|h2
 rw[dW h2];rfl
 exact s7 fun os ho=>ij (by omega)
 exact s8 fun os ho=>ij (by omega)
theorem ej{c:List In}{ps:List Pt}{k:Nat}{os:List Int}(hk:k<c.length)(h:bf os (dA c ps k)=true):k+os.length≤c.length:=by
 have h1:=bG h;have h2:=fQ (c:=c) (ps:=ps) (k:=k);omega
theorem kU{x:In}(h:aE x=true)(ho:x.op=0∨x.op=4):fN x.a=true:=by
 unfold aE at h;rwa[if_pos ho]at h
theorem fh{a:An}(hA:AOk a){k:Nat}{os:List Int}(hk:k<a.code.length)(h:bf os (dA a.code a.pts k)=true){i:Nat}(hi:i<os.length)(ho:os.getD i default=0∨os.getD i default=4):fN (a.code.getD (k+i) default).a=true:=by
 have h1:=ej hk h;have h2:=bG h
 have h3:=fG h i hi
 rw[dW (by omega)]at h3
 exact kU (by rw[au (by omega)];exact hA.code _ (List.getElem_mem _)) (by rw[h3];exact ho)
theorem mM{x y:Int}(hx:fN x=true)(hy:fN y=true): -1000000000000000≤x*y∧x*y≤1000000000000000:=uG (xf.1 hx) (by have:=xf.1 hy;omega)
theorem cv{x:In}(h:aE x=true): -1000000≤x.a∧x.a≤1000000:=by
 unfold aE fN cH at h
 split at h
 simpa using h
 split at h
 simp at h;omega
 split at h
 simp at h;omega
 split at h
 simp at h;omega
 split at h
 simp at h;omega
 cases h
abbrev wg(r:Nat×List In):A:=.tup [eI r.1,cn r.2]
abbrev dk(d:List Bool)(n:Nat):Nat:=(d.take n).count true
def bC(d:List Bool)(x:In):In:=if bI x=true then⟨x.op,x.a-dk d x.a.toNat⟩else x
def eo(d:List Bool)(p:Pt):Pt:=⟨p.k-dk d p.k.toNat,p.fs⟩
def be:List Bool→List In→List In
  | b::d,x::c=>if b=true then be d c else x::be d c
  | _,_=>[]
def aY(d:List Bool)(a:An):An:=⟨a.pre,a.post,(be d a.code).map (bC d),a.pts.map (eo d)⟩
theorem dx: ∀{d1 d2:List Bool} {c1 c2:List In},d1.length=c1.length→be (d1++d2) (c1++c2)=be d1 c1++be d2 c2
 | [],d2,[],c2,_=>rfl
 | [],_,_::_,_,h=>by simp at h
 | _::_,_,[],_,h=>by simp at h
 | b::d1,d2,x::c1,c2,h=>by
  have:=dx (d1:=d1) (d2:=d2) (c1:=c1) (c2:=c2) (by simpa using h)
  simp only[List.cons_append,be]
  split
  exact this
  rw[this];rfl
theorem kT: ∀{n:Nat} {c:List In},be (List.replicate n true) c=[]
 | 0,c=>by cases c<;>rfl
 | n+1,[]=>rfl
 | n+1,x::c=>by rw[List.replicate_succ,be,if_pos Z];exact kT
theorem fp: ∀{n:Nat} {c:List In},n=c.length→be (List.replicate n false) c=c
 | 0,[],_=>rfl
 | 0,_::_,h=>by simp at h
 | n+1,[],h=>by simp at h
 | n+1,x::c,h=>by rw[List.replicate_succ,be,if_neg (by decide),fp (by simpa using h)]
theorem ii{d:List Bool}{c:List In}{i:Nat}(h1:i<d.length)(h2:i<c.length) :
    be (d.take (i+1)) (c.take (i+1))=be (d.take i) (c.take i)++(if d.getD i default=true then[]else[c.getD i default]):=by
 rw[List.take_succ_eq_append_getElem h1,List.take_succ_eq_append_getElem h2,dx (by simp;omega),au h1,au h2]
 simp only[be]
theorem gF: ∀{d:List Bool} {c:List In},(be d c).length≤c.length
 | [],_=>by simp[be]
 | _::_,[]=>by simp[be]
 | b::d,x::c=>by
  have:=gF (d:=d) (c:=c)
  rw[be];split<;>simp<;>omega
theorem lP{d:List Bool}{i:Nat}(h:i<d.length):dk d (i+1)=dk d i+(if d.getD i default=true then 1 else 0):=by
 rw[dk,List.take_succ_eq_append_getElem h,List.count_append,au h]
 cases d[i]<;>rfl
theorem tG{d:List Bool}{i:Nat}:dk d i≤i:=by
 have h1:=List.count_le_length (a:=true) (l:=d.take i)
 rw[List.length_take]at h1;show List.count true (d.take i)≤i;omega
theorem nx{d:List Bool}{i:Nat}:dk d i≤d.length:=by
 have h1:=List.count_le_length (a:=true) (l:=d.take i)
 rw[List.length_take]at h1;show List.count true (d.take i)≤d.length;omega
def cI(c by':List In)(k i:Nat):List In:=c.take k++(by'.take i++c.drop (k+min i by'.length))
def dI(N k m i:Nat):List Bool:=List.replicate (k+m) false++(List.replicate (i-m) true++List.replicate (N-k-max i m) false)
theorem tL{c b:List In}{k:Nat}:cI c b k 0=c:=by simp[cI]
theorem tD{N k m:Nat}(h:k+m≤N):dI N k m 0=List.replicate N false:=by
 rw[dI,show N-k-max 0 m=N-(k+m) by omega,Nat.zero_sub,List.replicate_zero,List.nil_append,List.replicate_append_replicate,show k+m+(N-(k+m))=N by omega]
theorem oq{c b:List In}{k i:Nat}(h:k+b.length≤c.length):(cI c b k i).length=c.length:=by
 simp only[cI,cG,List.length_take,List.length_drop];omega
theorem om{N k m i:Nat}(h:k+i≤N)(hm:k+m≤N):(dI N k m i).length=N:=by
 simp only[dI,cG,List.length_replicate];omega
theorem uN{c b:List In}{k i:Nat}(hb:i<b.length)(h:k+b.length≤c.length):(cI c b k i).set (k+i) (b.getD i default)=cI c b k (i+1):=by
 unfold cI
 have hk:(c.take k).length=k:=by rw[List.length_take];omega
 have hi:(b.take i).length=i:=by rw[List.length_take];omega
 rw [List.set_append_right _ _ (by omega),hk,List.set_append_right _ _ (by omega),hi,Nat.min_eq_left (Nat.le_of_lt hb),show k+i-k-i=0 by omega,List.drop_eq_getElem_cons (show k+i<c.length by omega),List.set_cons_zero,
  Nat.min_eq_left hb,au hb,List.take_succ_eq_append_getElem hb,dO]
 rfl
theorem tM{c b:List In}{k i:Nat}(hb:b.length≤i):cI c b k (i+1)=cI c b k i:=by
 unfold cI
 rw[List.take_of_length_le hb,List.take_of_length_le (show b.length≤i+1 by omega),Nat.min_eq_right hb,Nat.min_eq_right (show b.length≤i+1 by omega)]
theorem uL{N k m i:Nat}(hm:m≤i)(h:k+i<N):(dI N k m i).set (k+i) true=dI N k m (i+1):=by
 unfold dI
 rw [List.set_append_right _ _ (by rw[List.length_replicate];omega),List.length_replicate,List.set_append_right _ _ (by rw[List.length_replicate];omega),List.length_replicate,
  show k+i-(k+m)-(i-m)=0 by omega,show N-k-max i m=(N-k-max (i+1) m)+1 by omega,List.replicate_succ,List.set_cons_zero,show i+1-m=(i-m)+1 by omega,List.replicate_succ']
 simp
theorem tE{N k m i:Nat}(hm:i<m):dI N k m (i+1)=dI N k m i:=by
 unfold dI
 rw[show i+1-m=0 by omega,show i-m=0 by omega,show max (i+1) m=max i m by omega]
theorem tH{N k m n z:Nat}(hm:m≤n)(h:k+n≤N):dk (dI N k m n) z=min (z-(k+m)) (n-m):=by
 unfold dk dI
 rw[List.take_append,List.count_append,List.take_append,List.count_append,List.take_replicate,List.take_replicate,List.take_replicate,List.count_replicate,List.count_replicate,List.count_replicate]
 simp
theorem nI{a:An}{k:Nat}(hA:AOk a)(hr:0<(az a k).1) :
    aY (dI a.code.length k (az a k).2.length (az a k).1) ⟨a.pre,a.post,cI a.code (az a k).2 k (az a k).1,a.pts⟩=bU a k (az a k).1 (az a k).2:=by
 have hk:=fT hr
 have hok:=cN hr
 have hl1:(az a k).2.length<(az a k).1:=hok.lt
 have hpl: ∀{z:Int},f8 a.code a.pts z=true→z≤k∨((k+(az a k).1:Nat):Int)≤z:=fun hz=>hZ hr hz
 have hnj: ∀x∈(az a k).2,bI x=false:=hok.jmp
 generalize (az a k).1=n at *
 generalize (az a k).2=b at *
 have hkeep:be (dI a.code.length k b.length n) (cI a.code b k n)=a.code.take k++b++a.code.drop (k+n):=by
  unfold dI cI
  have e1:a.code.drop (k+b.length)=(a.code.drop (k+b.length)).take (n-b.length)++a.code.drop (k+n):=by
   conv=>lhs;rw[←List.take_append_drop (n-b.length) (a.code.drop (k+b.length))]
   rw[List.drop_drop,show k+b.length+(n-b.length)=k+n by omega]
  rw[Nat.min_eq_right (Nat.le_of_lt hl1),List.take_of_length_le (Nat.le_of_lt hl1),Nat.max_eq_left (Nat.le_of_lt hl1),e1,←dO (List.take k a.code) b]
  rw [dx (by rw[List.length_replicate,cG,List.length_take];omega),fp (by rw[cG,List.length_take];omega),
   dx (by rw[List.length_replicate,List.length_take,List.length_drop];omega),kT,fp (by rw[List.length_drop];omega)]
  rfl
 have hcnt: ∀{z:Int},0≤z→(z≤k∨((k+n:Nat):Int)≤z)→((dk (dI a.code.length k b.length n) z.toNat:Nat):Int)=if(k:Int)<z then(n:Int)-b.length else 0:=by
  intro z h0 hz
  rw[tH (Nat.le_of_lt hl1) hk]
  split<;>omega
 unfold aY bU
 simp only[hkeep]
 congr 1
 refine List.map_congr_left fun x hx=>?_
 unfold bC fu
 cases hj:bI x with
 | false=>simp
 | true=>
  have hx':x∈a.code:=by
   simp only[dO,List.mem_append]at hx
   rcases hx with hx|hx|hx
   exact List.mem_of_mem_take hx
   rw[hnj x hx]at hj;cases hj
   exact List.mem_of_mem_drop hx
  have hi:=hA.code x hx'
  have h0:0≤x.a:=by
   simp only[bI,Bool.or_eq_true,decide_eq_true_eq]at hj
   unfold aE at hi
   rw[if_neg (by omega),if_neg (by omega),if_pos hj]at hi
   simp only[cH,bD,decide_eq_true_eq]at hi;omega
  rw[if_pos Z,hcnt h0 (hpl (by rw[f8,nf hx' hj];rfl))]
  by_cases hz:(k:Int)<x.a
  rw[if_pos hz,if_pos ⟨rfl,hz⟩]
  rw[if_neg hz,if_neg (fun h=>hz h.2)];simp
 refine List.map_congr_left fun p hp=>?_
 have h0:=(hA.pts p hp).1
 unfold eo lp
 rw[hcnt h0 (hpl (by rw[f8,j9 hp,Bool.or_true]))]
 by_cases hz:(k:Int)<p.k
 rw[if_pos hz,if_pos hz]
 rw[if_neg hz,if_neg hz];simp
theorem lE{pl:Int→Bool}: ∀{m:Nat} {l:List In} {k:Nat},(∀i,i<m→pl ((k+i:Nat):Int)=false)→(l.length≤m∨pl ((k+m:Nat):Int)=true)→gL pl k l=l.take m
 | m,[],k,_,_=>by simp[gL]
 | 0,x::r,k,_,h=>by
  have:pl (k:Int)=true:=by simpa using h
  rw[gL,if_pos this];rfl
 | m + 1,x::r,k,h1,h2=>by
  have h0: ¬pl (k:Int)=true:=by simpa using h1 0 (Nat.zero_lt_succ _)
  have e := lE (pl:=pl) (m:=m) (l:=r) (k:=k+1) (fun i hi=>by have:=h1 (i+1) (by omega);rwa[show k+(i+1)=k+1+i by omega]at this)
   (by rcases h2 with h2|h2
       · exact .inl (by rw[dF]at h2;omega)
       · exact .inr (by rwa[show k+1+m=k+(m+1) by omega]))
  rw[gL,if_neg h0,List.take_succ_cons,e]
theorem mX{c:List In}{ps:List Pt}{k e:Nat}(hk:k<e)(he:e≤c.length)(h1: ∀j,k<j→j<e→f8 c ps (j:Int)=false)(h2:c.length≤e∨f8 c ps (e:Int)=true):dA c ps k=(c.drop k).take (e-k):=by
 rw[dA,List.drop_eq_getElem_cons (show k<c.length by omega),show e-k=(e-k-1)+1 by omega,List.take_succ_cons]
 show c[k]::gL (f8 c ps) (k+1) (c.drop (k+1))=_
 rw [lE (m:=e-k-1) (fun i hi=>h1 _ (by omega) (by omega)) (by
  rw[List.length_drop]
  rcases h2 with h2|h2
  · exact .inl (by omega)
  · exact .inr (by rwa[show k+1+(e-k-1)=e by omega]))]
theorem kF{a:An}{k:Nat}(hk:k<a.code.length)(h:0<(az a k).1)(h0: ∀j,j<k→(az a j).1=0):cD a=some (bU a k (az a k).1 (az a k).2):=
  mW h (co _) (by omega) fun i _ hi=>h0 i hi
theorem nh{a:An}(h0: ∀j,j<a.code.length→(az a j).1=0):cD a=none:=kN fun i _ hi=>h0 i (by omega)
structure Fo(a out:An)(k:Nat):Prop where
  le:k≤out.code.length
  eq:bT out=bT a
  ok:AOk out
  no: ∀j,j<k→(az out j).1=0
theorem Fo.zero{a:An}(h:AOk a):Fo a a 0:=⟨co _,rfl,h,fun j hj=>absurd hj (Nat.not_lt_zero j)⟩
theorem Fo.skip{a out:An}{k:Nat}(h:Fo a out k)(hk:k<out.code.length)(h0:(az out k).1=0):Fo a out (k+1):=
  ⟨hk,h.eq,h.ok,fun j hj=>by
 by_cases e:j=k
 subst e;exact h0
 exact h.no j (by omega)⟩
theorem Fo.step{a out:An}{k:Nat}(h:Fo a out k)(hk:k<out.code.length)(h0:0<(az out k).1):Fo a (bU out k (az out k).1 (az out k).2) 0:=
  ⟨co _,(ik (kF hk h0 h.no)).symm.trans h.eq,h.ok.spl h0,fun j hj=>absurd hj (Nat.not_lt_zero j)⟩
theorem Fo.done{a out:An}{k:Nat}(h:Fo a out k)(hk:out.code.length≤k):bT a=out:=by
 rw[←h.eq];exact il (nh fun j hj=>h.no j (by omega))
structure Gn(a out:An):Prop where
  eq:bT out=bT a
  ok:AOk out
theorem Gn.zero{a:An}(h:AOk a):Gn a a:=⟨rfl,h⟩
theorem Gn.step{a out b:An}(h:Gn a out)(hs:cD out=some b):Gn a b∧b.code.length<out.code.length:=by
 refine⟨⟨(ik hs).symm.trans h.eq,?_⟩,iU hs⟩
 obtain⟨j,_,_,h3,h4,_⟩:=c9 hs
 subst h4;exact h.ok.spl h3
theorem Gn.done{a out:An}(h:Gn a out)(hs:cD out=none):bT a=out:=by rw[←h.eq];exact il hs
def e6{α:Type}(f:α→α)(l:List α)(i:Nat):List α:=(l.take i).map f++l.drop i
section
set_option linter.unusedSectionVars false
variable{α:Type}[Inhabited α]{f:α→α}{l:List α}{i:Nat}{g:α→List D}
theorem kx:e6 f l 0=l:=by simp[e6]
theorem iA:e6 f l l.length=l.map f:=by simp[e6]
theorem j6:(e6 f l i).length=l.length:=by simp only[e6,cG,aQ,List.length_take,List.length_drop];omega
theorem sU(hi:i<l.length):((e6 f l i).map g)[i]? = some (g (l.getD i default)):=by
 have h1:(e6 f l i)[i]? = some (l.getD i default):=by
  rw[e6,List.getElem?_append_right (by simp;omega),aQ,List.length_take,List.getElem?_drop,au hi,show i+(i-min i l.length)=i by omega,List.getElem?_eq_getElem hi]
 rw[List.getElem?_map,h1];rfl
theorem pd(hi:i<l.length):(e6 f l i).set i (f (l.getD i default))=e6 f l (i+1):=by
 unfold e6
 rw[List.set_append_right _ _ (by simp;omega),aQ,List.length_take,show i-min i l.length=0 by omega,List.drop_eq_getElem_cons hi,List.set_cons_zero,List.take_succ_eq_append_getElem hi,List.map_append,au hi,dO]
 rfl
theorem l8(hi:i<l.length){ds:List D}(h:g (f (l.getD i default))=ds):((e6 f l i).map g).set i ds=(e6 f l (i+1)).map g:=by
 rw[←pd hi,List.map_set,h]
theorem iL(hi:i<l.length)(h:f (l.getD i default)=l.getD i default):e6 f l (i+1)=e6 f l i:=by
 rw[←pd hi,h]
 refine List.ext_getElem? fun j=>?_
 rw[List.getElem?_set]
 split
 rename_i e;subst e
 have h1:(e6 f l i)[i]? = some (l.getD i default):=by
  rw[e6,List.getElem?_append_right (by simp;omega),aQ,List.length_take,List.getElem?_drop,au hi,show i+(i-min i l.length)=i by omega,List.getElem?_eq_getElem hi]
 rw[h1,if_pos (by rw[j6];exact hi)]
 rfl
theorem cE{j:Nat}(hi:i<l.length)(hj:j=i):((e6 f l i).map g)[j]? = some (g (l.getD i default)):=by subst hj;exact sU hi
theorem ge{j:Nat}(hi:i<l.length)(hj:j=i){ds:List D}(h:g (f (l.getD i default))=ds):((e6 f l i).map g).set j ds=(e6 f l (i+1)).map g:=by subst hj;exact l8 hi h
end
theorem gc{α:Type}[Inhabited α]{s:List α}{i:Nat}(h:i<s.length):s.getD i default∈s:=by rw[au h];exact List.getElem_mem h
theorem cR{c:List In}:Scal (c.map In.cells):=Scal.map fun _=>rfl
theorem mi{c:List In}: ∀x∈c.map In.cells,x.length=2:=by simp
abbrev dB(a:An)(k n:Nat)(b:List In):List In:=a.code.take k++b++a.code.drop (k+n)
theorem ql{x:In}:(bif bif decide (x.op=1)then true else decide (x.op=3)then true else decide (x.op=7))=bi x:=by
 unfold bi;cases decide (x.op=1)<;>cases decide (x.op=3)<;>rfl
theorem qc{a b:Bool}(h:(bif a then b else false)=true):a=true∧b=true:=by cases a<;>cases b<;>simp_all
theorem xP{x y:In}{h:Bool}(e:(bif bif bif bi x then true else decide (x.op=4)then h else false then decide (y.a=0)else false)=true):(bi x=true∨x.op=4)∧h=true∧y.a=0:=by
 by_cases h4:x.op=4<;>cases hp:bi x<;>simp_all
theorem rf{x y:In}{h:Bool}(e:(bif bif bif bi x then true else decide (x.op=4)then h else false then decide (y.a=0)else false)=false): ¬((bi x=true∨x.op=4)∧h=true∧y.a=0):=by
 rintro⟨h1,h2,h3⟩
 rw[h2,h3]at e
 rcases h1 with h1|h1
 rw[h1]at e;simp at e
 rw[h1]at e;simp at e
theorem xO{x y:In}{h:Bool}(e:(bif bif bi x then h else false then decide (y.a=1)else false)=true):bi x=true∧h=true∧y.a=1:=by
 cases hp:bi x<;>simp_all
theorem t7{x y:In}{h:Bool}(e:(bif bif bi x then h else false then decide (y.a=1)else false)=false): ¬(bi x=true∧h=true∧y.a=1):=by
 rintro⟨h1,h2,h3⟩
 rw[h1,h2,h3]at e;simp at e
theorem vo{x:In}{h:Bool}(e:(bif decide (x.a=0)then h else false)=true):h=true∧x.a=0:=by
 by_cases h0:x.a=0<;>simp_all
theorem iy{x:In}{h:Bool}(e:(bif decide (x.a=0)then h else false)=false): ¬(h=true∧x.a=0):=by
 rintro⟨h1,h2⟩
 rw[h1,h2]at e;simp at e
theorem yq{k:Nat}(hA:AOk a)(hk:k<a.code.length):MQ h1 h2 77 [ptr a.data,eI k] [] (Rows (.tup [eI (az a k).1,.c (.rs 0 0 (az a k).2.length)]) [cQ (az a k).2]):=by
 refine bd (jB 192 h1 h2 Tryz.func77 Z fun O hF=>?_)
 have hl:a.code.length≤L:=by simpa[As.fact,A.fact,M.fact,D.fact,Ds.fact]using hF.1.2.2.1.1
 refine af (ag Z (bm (bp Z (js Z (jn (aa (bu (F:=⟨[(0,ptr a.data),(1,eI k),(6,cn a.code),(7,.c (.pt 7 0 0))],[(7,.box ((a.code.getD k default).cells.map .d))]⟩) ?_ ?_)))))))
 refine ab (ag Z (ak (ax O Z Z Z Z Z Z Z Z (bJ (n:=k) (by omega))) Z (js Z (jl Z (jo Z (jn ?_))))))
 exact⟨Z,aq (bs:=[.box ((a.code.getD k default).cells.map .d)]) [7] Z Z ⟨Z,Z,Z,Z,aj⟩ Z⟩
 refine aa (aa (bu (F:=⟨[(32,eB (bif bf [0,4] (dA a.code a.pts k)then fN ((a.code.getD k default).a*(a.code.getD (k+1) default).a)else false)),(0,ptr a.data),(1,eI k),(6,cn a.code),(7,.c (.pt 7 0 0))],[(7,.box ((a.code.getD k default).cells.map .d))]⟩) ?_ ?_))
 cases hb3:bf [0,4] (dA a.code a.pts k)with
 | true=>
  have hq:=ej hk hb3
  have hq1:k+1<a.code.length:=by simp only[dF,List.length_nil]at hq;omega
  have n0:=fh (i:=0) hA hk hb3 (by decide) (.inl Z)
  have n1:=fh (i:=1) hA hk hb3 (by decide) (.inr Z)
  have hmm:=mM n0 n1
  refine jV [_,_,_,_,_,_,_,_,_,_,_,_,_,_,_,_] [pn [] 0 1,pn [] 0 1,pe [] 0,pe [0,1,2] 1,pn (rg 0 4) 2 2,pn (rg 0 5) 2 2,pn (rg 0 6) 2 2,pn (rg 0 5) 2 2,pn (rg 0 5) 2 2,pn [0,1,2,3,4,8] 2 2,pn [0,1,2,3,4,7,8,9] 2 2,pn (rg 0 5++rg 7 4) 2 2,pn (rg 0 5++rg 7 5) 2 2,pn (rg 0 13) 2 2,pe (rg 0 14) 2,pn (rg 0 15) 3 3] [2,3,14] [_,_,_,_] (ai (kc Z (V Z)) (ai (kc Z (V Z)) (ai (bq O Z Z Z Z Z Z Z Z Z Z Z Z Z) (ai (aG O (B0:=21000) Z Z Z Z ((kj (a:=a) (k:=k) (os:=[0,4]) h1 h2 hk).plain (congrArg eB hb3)) (VAs.cons (.c .d) (.cons (.c .d) (.cons (.c (.whole Z Z)) .nil))) Z Z Z Z Z) (kc Z (kc Z (kc Z (kc Z (kc Z (ai ((vF Z).cast (v':=eI ((k+1:Nat):Int)) (congrArg eI (by omega))) (ai (ax O Z Z Z Z Z Z Z Z (bJ (n:=k+1) (by omega))) (kc Z (kc Z (ai (aL O Z Z (by first|omega|(have:=hmm;simp only[Nat.add_zero]at this;omega)) (by first|omega|(have:=hmm;simp only[Nat.add_zero]at this;omega))) (ai (aG O (B0:=32000) Z Z Z Z (n5 (x:=(a.code.getD k default).a*(a.code.getD (k+1) default).a) h1 h2) (ae Z) Z Z Z Z Z) (ai (aB O Z Z Z Z Z) trivial)))))))))))))))) ?_
  exact⟨Z,aq (bs:=[.box ((a.code.getD k default).cells.map .d)]) [7] Z Z ⟨Z,Z,Z,Z,Z,aj⟩ Z⟩
 | false=>
  refine jV [_,_,_,_,_,_,_,_,_,_,_,_,_,_,_,_] [pn [] 0 1,pn [] 0 1,pe [] 0,pe [0,1,2] 1,pn (rg 0 4) 2 2,pn (rg 0 5) 0 2,pn (rg 0 6) 0 2,pn (rg 0 5) 0 2,pn (rg 0 5) 0 2,pn [0,1,2,3,4,8] 0 2,pn [0,1,2,3,4,7,8,9] 0 2,pn (rg 0 5++rg 7 4) 0 2,pn (rg 0 5++rg 7 5) 0 2,pn (rg 0 13) 0 2,pn (rg 0 14) 0 2,pn (rg 0 15) 2 2] [2,3] [_,_,_] (ai (kc Z (V Z)) (ai (kc Z (V Z)) (ai (bq O Z Z Z Z Z Z Z Z Z Z Z Z Z) (ai (aG O (B0:=21000) Z Z Z Z ((kj (a:=a) (k:=k) (os:=[0,4]) h1 h2 hk).plain (congrArg eB hb3)) (VAs.cons (.c .d) (.cons (.c .d) (.cons (.c (.whole Z Z)) .nil))) Z Z Z Z Z) (kc Z (ai ⟨Z,Z⟩ (ai ⟨Z,Z⟩ (ai ⟨Z,Z⟩ (ai ⟨Z,Z⟩ (ai ⟨Z,Z⟩ (ai ⟨Z,Z⟩ (ai ⟨Z,Z⟩ (ai ⟨Z,Z⟩ (ai ⟨Z,Z⟩ (ai ⟨Z,Z⟩ (ai (ap O Z Z Z Z Z) trivial)))))))))))))))) ?_
  exact⟨Z,aq (bs:=[.box ((a.code.getD k default).cells.map .d)]) [7] Z Z ⟨Z,Z,Z,Z,Z,aj⟩ Z⟩
 refine ao Z (fun z32=>?_) (fun z32=>?_)
 refine aa ?_
 obtain⟨hb3,hnum3⟩:=qc z32
 have hq:=ej hk hb3
 have hq1:k+1<a.code.length:=by simp only[dF,List.length_nil]at hq;omega
 have n0:=fh (i:=0) hA hk hb3 (by decide) (.inl Z)
 have n1:=fh (i:=1) hA hk hb3 (by decide) (.inr Z)
 have hmm:=mM n0 n1
 refine gK [_,_,_,_,_,_,_,_,_,_,_,_,_] [aN,ar [0],aN,aN,ar [3],ar [2,3,4],ar (rg 2 4),ar (rg 2 5),ar (rg 0 8),ar (rg 0 9),pe (rg 0 10) 0,pn [] 0 1,pn (rg 0 12) 1 1] [10] [_,_] (qW Z (ai ((vF Z).cast (v':=eI ((k+1:Nat):Int)) (congrArg eI (by omega))) (ai (ax O Z Z Z Z Z Z Z Z (bJ (n:=k+1) (by omega))) (kc Z (kc Z (ai (aL O Z Z (by first|omega|(have:=hmm;simp only[Nat.add_zero]at this;omega)) (by first|omega|(have:=hmm;simp only[Nat.add_zero]at this;omega))) (kc Z (ai (bq O Z Z Z Z Z Z Z Z Z Z Z Z Z) (ai (kc Z (V Z)) (kc Z trivial)))))))))) ?_
 refine f9 ?_
 rw[show az a k=_ from cP hk]
 unfold bX
 rw[if_pos ⟨hb3,hnum3⟩]
 refine⟨.inl Z,_,eU 43 (xs:=([(⟨0,(a.code.getD k default).a*(a.code.getD (k+1) default).a⟩:In)]).map In.cells) Z cR,_,Z,[43],by decide,Z,Z,Z⟩
 refine ac (aa (aa (bu (F:=⟨[(59,eB (bif bf [0,0,3] (dA a.code a.pts k)then fN ((a.code.getD k default).a+(a.code.getD (k+1) default).a)else false)),(0,ptr a.data),(1,eI k),(6,cn a.code),(7,.c (.pt 7 0 0))],[(7,.box ((a.code.getD k default).cells.map .d))]⟩) ?_ ?_)))
 cases hb5:bf [0,0,3] (dA a.code a.pts k)with
 | true=>
  have hq:=ej hk hb5
  have hq1:k+1<a.code.length:=by simp only[dF,List.length_nil]at hq;omega
  have n0:=cv (hA.code _ (bW hk))
  have n1:=cv (hA.code _ (bW hq1))
  refine jV [_,_,_,_,_,_,_,_,_,_,_,_,_,_,_,_] [pn [] 0 1,pn [] 0 1,pe [] 0,pe [0,1,2] 1,pn (rg 0 4) 2 2,pn (rg 0 5) 2 2,pn (rg 0 6) 2 2,pn (rg 0 5) 2 2,pn (rg 0 5) 2 2,pn [0,1,2,3,4,8] 2 2,pn [0,1,2,3,4,7,8,9] 2 2,pn (rg 0 5++rg 7 4) 2 2,pn (rg 0 5++rg 7 5) 2 2,pn (rg 0 13) 2 2,pe (rg 0 14) 2,pn (rg 0 15) 3 3] [2,3,14] [_,_,_,_] (ai (kc Z (V Z)) (ai (kc Z (V Z)) (ai (bq O Z Z Z Z Z Z Z Z Z Z Z Z Z) (ai (aG O (B0:=48000) Z Z Z Z ((kj (a:=a) (k:=k) (os:=[0,0,3]) h1 h2 hk).plain (congrArg eB hb5)) (VAs.cons (.c .d) (.cons (.c .d) (.cons (.c (.whole Z Z)) .nil))) Z Z Z Z Z) (kc Z (kc Z (kc Z (kc Z (kc Z (ai ((vF Z).cast (v':=eI ((k+1:Nat):Int)) (congrArg eI (by omega))) (ai (ax O Z Z Z Z Z Z Z Z (bJ (n:=k+1) (by omega))) (kc Z (kc Z (ai (aL O Z Z (by first|omega|(have:=hmm;simp only[Nat.add_zero]at this;omega)) (by first|omega|(have:=hmm;simp only[Nat.add_zero]at this;omega))) (ai (aG O (B0:=59000) Z Z Z Z (n5 (x:=(a.code.getD k default).a+(a.code.getD (k+1) default).a) h1 h2) (ae Z) Z Z Z Z Z) (ai (aB O Z Z Z Z Z) trivial)))))))))))))))) ?_
  exact⟨Z,aq (bs:=[.box ((a.code.getD k default).cells.map .d)]) [7] Z Z ⟨Z,Z,Z,Z,Z,aj⟩ Z⟩
 | false=>
  refine jV [_,_,_,_,_,_,_,_,_,_,_,_,_,_,_,_] [pn [] 0 1,pn [] 0 1,pe [] 0,pe [0,1,2] 1,pn (rg 0 4) 2 2,pn (rg 0 5) 0 2,pn (rg 0 6) 0 2,pn (rg 0 5) 0 2,pn (rg 0 5) 0 2,pn [0,1,2,3,4,8] 0 2,pn [0,1,2,3,4,7,8,9] 0 2,pn (rg 0 5++rg 7 4) 0 2,pn (rg 0 5++rg 7 5) 0 2,pn (rg 0 13) 0 2,pn (rg 0 14) 0 2,pn (rg 0 15) 2 2] [2,3] [_,_,_] (ai (kc Z (V Z)) (ai (kc Z (V Z)) (ai (bq O Z Z Z Z Z Z Z Z Z Z Z Z Z) (ai (aG O (B0:=48000) Z Z Z Z ((kj (a:=a) (k:=k) (os:=[0,0,3]) h1 h2 hk).plain (congrArg eB hb5)) (VAs.cons (.c .d) (.cons (.c .d) (.cons (.c (.whole Z Z)) .nil))) Z Z Z Z Z) (kc Z (ai ⟨Z,Z⟩ (ai ⟨Z,Z⟩ (ai ⟨Z,Z⟩ (ai ⟨Z,Z⟩ (ai ⟨Z,Z⟩ (ai ⟨Z,Z⟩ (ai ⟨Z,Z⟩ (ai ⟨Z,Z⟩ (ai ⟨Z,Z⟩ (ai ⟨Z,Z⟩ (ai (ap O Z Z Z Z Z) trivial)))))))))))))))) ?_
  exact⟨Z,aq (bs:=[.box ((a.code.getD k default).cells.map .d)]) [7] Z Z ⟨Z,Z,Z,Z,Z,aj⟩ Z⟩
 refine ao Z (fun z59=>?_) (fun z59=>?_)
 refine aa ?_
 obtain⟨hb5,hnum5⟩:=qc z59
 have hq:=ej hk hb5
 have hq1:k+1<a.code.length:=by simp only[dF,List.length_nil]at hq;omega
 have n0:=cv (hA.code _ (bW hk))
 have n1:=cv (hA.code _ (bW hq1))
 refine gK [_,_,_,_,_,_,_,_,_,_,_,_,_] [aN,ar [0],aN,aN,ar [3],ar [2,3,4],ar (rg 2 4),ar (rg 2 5),ar (rg 0 8),ar (rg 0 9),pe (rg 0 10) 0,pn [] 0 1,pn (rg 0 12) 1 1] [10] [_,_] (qW Z (ai ((vF Z).cast (v':=eI ((k+1:Nat):Int)) (congrArg eI (by omega))) (ai (ax O Z Z Z Z Z Z Z Z (bJ (n:=k+1) (by omega))) (kc Z (kc Z (ai (aL O Z Z (by first|omega|(have:=hmm;simp only[Nat.add_zero]at this;omega)) (by first|omega|(have:=hmm;simp only[Nat.add_zero]at this;omega))) (kc Z (ai (bq O Z Z Z Z Z Z Z Z Z Z Z Z Z) (ai (kc Z (V Z)) (kc Z trivial)))))))))) ?_
 refine f9 ?_
 rw[show az a k=_ from cP hk]
 unfold bX
 rw[if_neg (dC z32),if_pos ⟨hb5,hnum5⟩]
 refine⟨.inl Z,_,eU 70 (xs:=([(⟨0,(a.code.getD k default).a+(a.code.getD (k+1) default).a⟩:In)]).map In.cells) Z cR,_,Z,[70],by decide,Z,Z,Z⟩
 refine ac (aa (aa ?_))
 obtain⟨B7,hB7⟩: ∃B,B=decide ((a.code.getD k default).a=0):=⟨_,rfl⟩
 refine bu (F:=⟨[(79,eB (bif B7 then bf [0,1,3] (dA a.code a.pts k)else false)),(0,ptr a.data),(1,eI k),(6,cn a.code),(7,.c (.pt 7 0 0))],[(7,.box ((a.code.getD k default).cells.map .d))]⟩) ?_ ?_
 refine ab (ag Z (ak ((V Z).cast (v':=eB B7) (congrArg eB hB7.symm)) Z ?_))
 cases hb74:B7 with
 | true=>
  refine js Z (bh Z (js Z (bh Z (js Z (bh Z (bc (ch O Z Z Z Z Z Z Z Z Z Z Z) Z (aA ?_)))))))
  refine bh Z (aP O Z Z Z Z (kj (a:=a) (k:=k) (os:=[0,1,3]) h1 h2 hk) (VAs.cons (.c .d) (.cons (.c .d) (.cons (.c (.whole Z Z)) .nil))) Z Z Z Z Z (B0:=79000) Z (ak (aB O Z Z Z Z Z) Z (jn ?_)))
  exact⟨Z,aq (bs:=[.box ((a.code.getD k default).cells.map .d)]) [7] Z Z ⟨Z,Z,Z,Z,Z,aj⟩ Z⟩
 | false=>
  refine js Z (ay Z (ay Z (ay Z (ay Z (ak (ap O Z Z Z Z Z) Z (jn ?_))))))
  exact⟨Z,aq (bs:=[.box ((a.code.getD k default).cells.map .d)]) [7] Z Z ⟨Z,Z,Z,Z,Z,aj⟩ Z⟩
 refine ao Z (fun z79=>?_) (fun z79=>?_)
 refine aa ?_
 subst hB7
 obtain⟨hb7,hz7⟩:=vo z79
 have hq:=ej hk hb7
 have hq1:k+1<a.code.length:=by simp only[dF,List.length_nil]at hq;omega
 refine gK [_,_,_,_,_,_,_,_] [aN,aN,ar [1],ar [0,1,2],ar (rg 0 4),pe (rg 0 5) 0,pn [] 0 1,pn (rg 0 7) 1 1] [5] [_,_] (kc Z (kc Z (ai ((vF Z).cast (v':=eI ((k+1:Nat):Int)) (congrArg eI (by omega))) (ai (ax O Z Z Z Z Z Z Z Z (bJ (n:=k+1) (by omega))) (kc Z (ai (bq O Z Z Z Z Z Z Z Z Z Z Z Z Z) (ai (kc Z (V Z)) (kc Z trivial)))))))) ?_
 refine f9 ?_
 rw[show az a k=_ from cP hk]
 unfold bX
 rw[if_neg (dC z32),if_neg (dC z59),if_pos ⟨hb7,hz7⟩]
 refine⟨.inl Z,_,eU 85 (xs:=([(a.code.getD (k+1) default)]).map In.cells) Z cR,_,Z,[85],by decide,Z,Z,Z⟩
 refine ac (aa (aa ?_))
 obtain⟨B9,hB9⟩: ∃B,B=decide ((a.code.getD k default).a=0):=⟨_,rfl⟩
 refine bu (F:=⟨[(94,eB (bif B9 then bf [0,1,4,3] (dA a.code a.pts k)else false)),(0,ptr a.data),(1,eI k),(6,cn a.code),(7,.c (.pt 7 0 0))],[(7,.box ((a.code.getD k default).cells.map .d))]⟩) ?_ ?_
 refine ab (ag Z (ak ((V Z).cast (v':=eB B9) (congrArg eB hB9.symm)) Z ?_))
 cases hb89:B9 with
 | true=>
  refine js Z (bh Z (js Z (bh Z (js Z (bh Z (bc (ch O Z Z Z Z Z Z Z Z Z Z Z) Z (aA ?_)))))))
  refine bh Z (aP O Z Z Z Z (kj (a:=a) (k:=k) (os:=[0,1,4,3]) h1 h2 hk) (VAs.cons (.c .d) (.cons (.c .d) (.cons (.c (.whole Z Z)) .nil))) Z Z Z Z Z (B0:=94000) Z (ak (aB O Z Z Z Z Z) Z (jn ?_)))
  exact⟨Z,aq (bs:=[.box ((a.code.getD k default).cells.map .d)]) [7] Z Z ⟨Z,Z,Z,Z,Z,aj⟩ Z⟩
 | false=>
  refine js Z (ay Z (ay Z (ay Z (ay Z (ak (ap O Z Z Z Z Z) Z (jn ?_))))))
  exact⟨Z,aq (bs:=[.box ((a.code.getD k default).cells.map .d)]) [7] Z Z ⟨Z,Z,Z,Z,Z,aj⟩ Z⟩
 refine ao Z (fun z94=>?_) (fun z94=>?_)
 refine aa ?_
 subst hB9
 obtain⟨hb9,hz9⟩:=vo z94
 have hq:=ej hk hb9
 have hq1:k+1<a.code.length:=by simp only[dF,List.length_nil]at hq;omega
 have hq2:k+2<a.code.length:=by simp only[dF,List.length_nil]at hq;omega
 refine gK [_,_,_,_,_,_,_,_,_,_,_,_,_] [aN,aN,ar [1],ar [0,1,2],ar (rg 0 4),aN,aN,ar [6],ar [5,6,7],ar (rg 5 4),pe (rg 0 10) 0,pn [] 0 1,pn (rg 0 12) 1 1] [10] [_,_] (kc Z (kc Z (ai ((vF Z).cast (v':=eI ((k+1:Nat):Int)) (congrArg eI (by omega))) (ai (ax O Z Z Z Z Z Z Z Z (bJ (n:=k+1) (by omega))) (kc Z (kc Z (kc Z (ai ((vF Z).cast (v':=eI ((k+2:Nat):Int)) (congrArg eI (by omega))) (ai (ax O Z Z Z Z Z Z Z Z (bJ (n:=k+2) (by omega))) (kc Z (ai (bq O Z Z Z Z Z Z Z Z Z Z Z Z Z) (ai (kc Z (V Z)) (kc Z trivial))))))))))))) ?_
 refine f9 ?_
 subst hB7
 rw[show az a k=_ from cP hk]
 unfold bX
 rw[if_neg (dC z32),if_neg (dC z59),if_neg (iy z79),if_pos ⟨hb9,hz9⟩]
 refine⟨.inl Z,_,eU 105 (xs:=([(a.code.getD (k+1) default),(a.code.getD (k+2) default)]).map In.cells) Z cR,_,Z,[105],by decide,Z,Z,Z⟩
 refine ac (aa (bu (F:=⟨[(8,eB (bif bif decide ((a.code.getD k default).op=1)then true else decide ((a.code.getD k default).op=3)then true else decide ((a.code.getD k default).op=7))),(0,ptr a.data),(1,eI k),(6,cn a.code),(7,.c (.pt 7 0 0))],[(7,.box ((a.code.getD k default).cells.map .d))]⟩) ?_ ?_))
 refine ab (bb Z ?_)
 cases hb109:decide ((a.code.getD k default).op=1)with
 | true=>
  refine js Z (ay Z (ay Z (ay Z (ak (aB O Z Z Z Z Z) Z (js Z (ay Z (ay Z (ay Z (ak (aB O Z Z Z Z Z) Z (js Z (jn ?_)))))))))))
  exact⟨Z,aq (bs:=[.box ((a.code.getD k default).cells.map .d)]) [7] Z Z ⟨Z,Z,Z,Z,Z,aj⟩ Z⟩
 | false=>
  refine js Z (bh Z (js Z (bh Z (js Z (bh Z (js Z (ak (ap O Z Z Z Z Z) Z ?_)))))))
  cases hb114:decide ((a.code.getD k default).op=3)with
  | true=>
   refine js Z (ay Z (ay Z (ay Z (ak (aB O Z Z Z Z Z) Z (js Z (jn ?_))))))
   exact⟨Z,aq (bs:=[.box ((a.code.getD k default).cells.map .d)]) [7] Z Z ⟨Z,Z,Z,Z,Z,aj⟩ Z⟩
  | false=>
   refine js Z (bh Z (js Z (bh Z (js Z (bh Z (js Z (ak (ap O Z Z Z Z Z) Z (js Z (jn ?_)))))))))
   exact⟨Z,aq (bs:=[.box ((a.code.getD k default).cells.map .d)]) [7] Z Z ⟨Z,Z,Z,Z,Z,aj⟩ Z⟩
 refine aa (aa ?_)
 rw[ql]
 refine bu (F:=⟨[(141,eB (bif (bif bif bi (a.code.getD k default)then true else decide ((a.code.getD k default).op=4)then bf [(a.code.getD k default).op,0,3] (dA a.code a.pts k)else false)then decide ((a.code.getD (k+1) default).a=0)else false)),(8,eB (bi (a.code.getD k default))),(0,ptr a.data),(1,eI k),(6,cn a.code),(7,.c (.pt 7 0 0))],[(7,.box ((a.code.getD k default).cells.map .d))]⟩) ?_ ?_
 refine ab (js Z ?_)
 cases hb120:bi (a.code.getD k default)with
 | true=>
  refine js Z (ay Z (ay Z (ay Z (ak (aB O Z Z Z Z Z) Z (js Z (bh Z (js Z (bh Z (js Z (bh Z (js Z (bh Z (js Z (bh Z (bc (ch O Z Z Z Z Z Z Z Z Z Z Z) Z (aA ?_))))))))))))))))
  refine bh Z (aP O Z Z Z Z (kj (a:=a) (k:=k) (os:=[(a.code.getD k default).op,0,3]) h1 h2 hk) (VAs.cons (.c .d) (.cons (.c .d) (.cons (.c (.whole Z Z)) .nil))) Z Z Z Z Z (B0:=132000) Z (ak (aB O Z Z Z Z Z) Z ?_))
  cases hb133:bf [(a.code.getD k default).op,0,3] (dA a.code a.pts k)with
  | true=>
   have hq:=ej hk hb133
   have hq1:k+1<a.code.length:=by simp only[dF,List.length_nil]at hq;omega
   refine js Z (bh Z (js Z (bh Z (js Z (bh Z (ak ((vF Z).cast (v':=eI ((k+1:Nat):Int)) (congrArg eI (by omega))) Z (bh Z (ak (ax O Z Z Z Z Z Z Z Z (bJ (n:=k+1) (by omega))) Z (bh Z (js Z (bh Z (js Z (bh Z (js Z (ak (aB O Z Z Z Z Z) Z (jn ?_))))))))))))))))
   exact⟨Z,aq (bs:=[.box ((a.code.getD k default).cells.map .d)]) [7] Z Z ⟨Z,Z,Z,Z,Z,Z,aj⟩ Z⟩
  | false=>
   refine js Z (ay Z (ay Z (ay Z (ay Z (ay Z (ay Z (ay Z (ak (ap O Z Z Z Z Z) Z (jn ?_)))))))))
   exact⟨Z,aq (bs:=[.box ((a.code.getD k default).cells.map .d)]) [7] Z Z ⟨Z,Z,Z,Z,Z,Z,aj⟩ Z⟩
 | false=>
  refine js Z (bh Z (js Z (bh Z (js Z (bh Z (js Z (ak (ap O Z Z Z Z Z) Z ?_)))))))
  cases hb125:decide ((a.code.getD k default).op=4)with
  | true=>
   refine js Z (bh Z (js Z (bh Z (js Z (bh Z (js Z (bh Z (js Z (bh Z (bc (ch O Z Z Z Z Z Z Z Z Z Z Z) Z (aA ?_)))))))))))
   refine bh Z (aP O Z Z Z Z (kj (a:=a) (k:=k) (os:=[(a.code.getD k default).op,0,3]) h1 h2 hk) (VAs.cons (.c .d) (.cons (.c .d) (.cons (.c (.whole Z Z)) .nil))) Z Z Z Z Z (B0:=132000) Z (ak (aB O Z Z Z Z Z) Z ?_))
   cases hb133:bf [(a.code.getD k default).op,0,3] (dA a.code a.pts k)with
   | true=>
    have hq:=ej hk hb133
    have hq1:k+1<a.code.length:=by simp only[dF,List.length_nil]at hq;omega
    refine js Z (bh Z (js Z (bh Z (js Z (bh Z (ak ((vF Z).cast (v':=eI ((k+1:Nat):Int)) (congrArg eI (by omega))) Z (bh Z (ak (ax O Z Z Z Z Z Z Z Z (bJ (n:=k+1) (by omega))) Z (bh Z (js Z (bh Z (js Z (bh Z (js Z (ak (aB O Z Z Z Z Z) Z (jn ?_))))))))))))))))
    exact⟨Z,aq (bs:=[.box ((a.code.getD k default).cells.map .d)]) [7] Z Z ⟨Z,Z,Z,Z,Z,Z,aj⟩ Z⟩
   | false=>
    refine js Z (ay Z (ay Z (ay Z (ay Z (ay Z (ay Z (ay Z (ak (ap O Z Z Z Z Z) Z (jn ?_)))))))))
    exact⟨Z,aq (bs:=[.box ((a.code.getD k default).cells.map .d)]) [7] Z Z ⟨Z,Z,Z,Z,Z,Z,aj⟩ Z⟩
  | false=>
   refine js Z (ay Z (ay Z (ay Z (ay Z (ay Z (ay Z (ak (ap O Z Z Z Z Z) Z (js Z (ay Z (ay Z (ay Z (ay Z (ay Z (ay Z (ay Z (ak (ap O Z Z Z Z Z) Z (jn ?_)))))))))))))))))
   exact⟨Z,aq (bs:=[.box ((a.code.getD k default).cells.map .d)]) [7] Z Z ⟨Z,Z,Z,Z,Z,Z,aj⟩ Z⟩
 refine ao Z (fun z141=>?_) (fun z141=>?_)
 refine aa (gK [_,_,_,_] [aN,pe [0] 0,pn [] 0 1,pn [0,1,2] 1 1] [1] [_,_] (kc Z (ai (bq O Z Z Z Z Z Z Z Z Z Z Z Z Z) (ai (kc Z (V Z)) (kc Z trivial)))) ?_)
 refine f9 ?_
 subst hB7
 subst hB9
 rw[show az a k=_ from cP hk]
 unfold bX
 rw[if_neg (dC z32),if_neg (dC z59),if_neg (iy z79),if_neg (iy z94),if_pos (xP z141)]
 refine⟨.inl Z,_,eU 143 (xs:=([(a.code.getD k default)]).map In.cells) Z cR,_,Z,[143],by decide,Z,Z,Z⟩
 refine ac (aa (aa (bu (F:=⟨[(161,eB (bif (bif bi (a.code.getD k default)then bf [(a.code.getD k default).op,4] (dA a.code a.pts k)else false)then decide ((a.code.getD (k+1) default).a=1)else false)),(8,eB (bi (a.code.getD k default))),(0,ptr a.data),(1,eI k),(6,cn a.code),(7,.c (.pt 7 0 0))],[(7,.box ((a.code.getD k default).cells.map .d))]⟩) ?_ ?_)))
 refine ab (js Z ?_)
 cases hb145:bi (a.code.getD k default)with
 | true=>
  refine js Z (bh Z (js Z (bh Z (js Z (bh Z (js Z (bh Z (js Z (bh Z (bc (ch O Z Z Z Z Z Z Z Z Z Z Z) Z (aA ?_)))))))))))
  refine bh Z (aP O Z Z Z Z (kj (a:=a) (k:=k) (os:=[(a.code.getD k default).op,4]) h1 h2 hk) (VAs.cons (.c .d) (.cons (.c .d) (.cons (.c (.whole Z Z)) .nil))) Z Z Z Z Z (B0:=152000) Z (ak (aB O Z Z Z Z Z) Z ?_))
  cases hb153:bf [(a.code.getD k default).op,4] (dA a.code a.pts k)with
  | true=>
   have hq:=ej hk hb153
   have hq1:k+1<a.code.length:=by simp only[dF,List.length_nil]at hq;omega
   refine js Z (bh Z (js Z (bh Z (js Z (bh Z (ak ((vF Z).cast (v':=eI ((k+1:Nat):Int)) (congrArg eI (by omega))) Z (bh Z (ak (ax O Z Z Z Z Z Z Z Z (bJ (n:=k+1) (by omega))) Z (bh Z (js Z (bh Z (js Z (bh Z (js Z (ak (aB O Z Z Z Z Z) Z (jn ?_))))))))))))))))
   exact⟨Z,aq (bs:=[.box ((a.code.getD k default).cells.map .d)]) [7] Z Z ⟨Z,Z,Z,Z,Z,Z,aj⟩ Z⟩
  | false=>
   refine js Z (ay Z (ay Z (ay Z (ay Z (ay Z (ay Z (ay Z (ak (ap O Z Z Z Z Z) Z (jn ?_)))))))))
   exact⟨Z,aq (bs:=[.box ((a.code.getD k default).cells.map .d)]) [7] Z Z ⟨Z,Z,Z,Z,Z,Z,aj⟩ Z⟩
 | false=>
  refine js Z (ay Z (ay Z (ay Z (ay Z (ay Z (ay Z (ak (ap O Z Z Z Z Z) Z (js Z (ay Z (ay Z (ay Z (ay Z (ay Z (ay Z (ay Z (ak (ap O Z Z Z Z Z) Z (jn ?_)))))))))))))))))
  exact⟨Z,aq (bs:=[.box ((a.code.getD k default).cells.map .d)]) [7] Z Z ⟨Z,Z,Z,Z,Z,Z,aj⟩ Z⟩
 refine ao Z (fun z161=>?_) (fun z161=>?_)
 refine aa (gK [_,_,_,_] [aN,pe [0] 0,pn [] 0 1,pn [0,1,2] 1 1] [1] [_,_] (kc Z (ai (bq O Z Z Z Z Z Z Z Z Z Z Z Z Z) (ai (kc Z (V Z)) (kc Z trivial)))) ?_)
 refine f9 ?_
 subst hB7
 subst hB9
 rw[show az a k=_ from cP hk]
 unfold bX
 rw[if_neg (dC z32),if_neg (dC z59),if_neg (iy z79),if_neg (iy z94),if_neg (rf z141),if_pos (xO z161)]
 refine⟨.inl Z,_,eU 163 (xs:=([(a.code.getD k default)]).map In.cells) Z cR,_,Z,[163],by decide,Z,Z,Z⟩
 refine ac (aa (aa (bu (F:=⟨[(179,eB (bif bf [4,4] (dA a.code a.pts k)then fN ((a.code.getD k default).a*(a.code.getD (k+1) default).a)else false)),(0,ptr a.data),(1,eI k),(6,cn a.code),(7,.c (.pt 7 0 0))],[(7,.box ((a.code.getD k default).cells.map .d))]⟩) ?_ ?_)))
 cases hb16:bf [4,4] (dA a.code a.pts k)with
 | true=>
  have hq:=ej hk hb16
  have hq1:k+1<a.code.length:=by simp only[dF,List.length_nil]at hq;omega
  have n0:=fh (i:=0) hA hk hb16 (by decide) (.inr Z)
  have n1:=fh (i:=1) hA hk hb16 (by decide) (.inr Z)
  have hmm:=mM n0 n1
  refine jV [_,_,_,_,_,_,_,_,_,_,_,_,_,_,_,_] [pn [] 0 1,pn [] 0 1,pe [] 0,pe [0,1,2] 1,pn (rg 0 4) 2 2,pn (rg 0 5) 2 2,pn (rg 0 6) 2 2,pn (rg 0 5) 2 2,pn (rg 0 5) 2 2,pn [0,1,2,3,4,8] 2 2,pn [0,1,2,3,4,7,8,9] 2 2,pn (rg 0 5++rg 7 4) 2 2,pn (rg 0 5++rg 7 5) 2 2,pn (rg 0 13) 2 2,pe (rg 0 14) 2,pn (rg 0 15) 3 3] [2,3,14] [_,_,_,_] (ai (kc Z (V Z)) (ai (kc Z (V Z)) (ai (bq O Z Z Z Z Z Z Z Z Z Z Z Z Z) (ai (aG O (B0:=168000) Z Z Z Z ((kj (a:=a) (k:=k) (os:=[4,4]) h1 h2 hk).plain (congrArg eB hb16)) (VAs.cons (.c .d) (.cons (.c .d) (.cons (.c (.whole Z Z)) .nil))) Z Z Z Z Z) (kc Z (kc Z (kc Z (kc Z (kc Z (ai ((vF Z).cast (v':=eI ((k+1:Nat):Int)) (congrArg eI (by omega))) (ai (ax O Z Z Z Z Z Z Z Z (bJ (n:=k+1) (by omega))) (kc Z (kc Z (ai (aL O Z Z (by first|omega|(have:=hmm;simp only[Nat.add_zero]at this;omega)) (by first|omega|(have:=hmm;simp only[Nat.add_zero]at this;omega))) (ai (aG O (B0:=179000) Z Z Z Z (n5 (x:=(a.code.getD k default).a*(a.code.getD (k+1) default).a) h1 h2) (ae Z) Z Z Z Z Z) (ai (aB O Z Z Z Z Z) trivial)))))))))))))))) ?_
  exact⟨Z,aq (bs:=[.box ((a.code.getD k default).cells.map .d)]) [7] Z Z ⟨Z,Z,Z,Z,Z,aj⟩ Z⟩
 | false=>
  refine jV [_,_,_,_,_,_,_,_,_,_,_,_,_,_,_,_] [pn [] 0 1,pn [] 0 1,pe [] 0,pe [0,1,2] 1,pn (rg 0 4) 2 2,pn (rg 0 5) 0 2,pn (rg 0 6) 0 2,pn (rg 0 5) 0 2,pn (rg 0 5) 0 2,pn [0,1,2,3,4,8] 0 2,pn [0,1,2,3,4,7,8,9] 0 2,pn (rg 0 5++rg 7 4) 0 2,pn (rg 0 5++rg 7 5) 0 2,pn (rg 0 13) 0 2,pn (rg 0 14) 0 2,pn (rg 0 15) 2 2] [2,3] [_,_,_] (ai (kc Z (V Z)) (ai (kc Z (V Z)) (ai (bq O Z Z Z Z Z Z Z Z Z Z Z Z Z) (ai (aG O (B0:=168000) Z Z Z Z ((kj (a:=a) (k:=k) (os:=[4,4]) h1 h2 hk).plain (congrArg eB hb16)) (VAs.cons (.c .d) (.cons (.c .d) (.cons (.c (.whole Z Z)) .nil))) Z Z Z Z Z) (kc Z (ai ⟨Z,Z⟩ (ai ⟨Z,Z⟩ (ai ⟨Z,Z⟩ (ai ⟨Z,Z⟩ (ai ⟨Z,Z⟩ (ai ⟨Z,Z⟩ (ai ⟨Z,Z⟩ (ai ⟨Z,Z⟩ (ai ⟨Z,Z⟩ (ai ⟨Z,Z⟩ (ai (ap O Z Z Z Z Z) trivial)))))))))))))))) ?_
  exact⟨Z,aq (bs:=[.box ((a.code.getD k default).cells.map .d)]) [7] Z Z ⟨Z,Z,Z,Z,Z,aj⟩ Z⟩
 refine ao Z (fun z179=>?_) (fun z179=>?_)
 refine aa ?_
 obtain⟨hb16,hnum16⟩:=qc z179
 have hq:=ej hk hb16
 have hq1:k+1<a.code.length:=by simp only[dF,List.length_nil]at hq;omega
 have n0:=fh (i:=0) hA hk hb16 (by decide) (.inr Z)
 have n1:=fh (i:=1) hA hk hb16 (by decide) (.inr Z)
 have hmm:=mM n0 n1
 refine gK [_,_,_,_,_,_,_,_,_,_,_,_,_] [aN,ar [0],aN,aN,ar [3],ar [2,3,4],ar (rg 2 4),ar (rg 2 5),ar (rg 0 8),ar (rg 0 9),pe (rg 0 10) 0,pn [] 0 1,pn (rg 0 12) 1 1] [10] [_,_] (qW Z (ai ((vF Z).cast (v':=eI ((k+1:Nat):Int)) (congrArg eI (by omega))) (ai (ax O Z Z Z Z Z Z Z Z (bJ (n:=k+1) (by omega))) (kc Z (kc Z (ai (aL O Z Z (by first|omega|(have:=hmm;simp only[Nat.add_zero]at this;omega)) (by first|omega|(have:=hmm;simp only[Nat.add_zero]at this;omega))) (kc Z (ai (bq O Z Z Z Z Z Z Z Z Z Z Z Z Z) (ai (kc Z (V Z)) (kc Z trivial)))))))))) ?_
 refine f9 ?_
 subst hB7
 subst hB9
 rw[show az a k=_ from cP hk]
 unfold bX
 rw[if_neg (dC z32),if_neg (dC z59),if_neg (iy z79),if_neg (iy z94),if_neg (rf z141),if_neg (t7 z161),if_pos ⟨hb16,hnum16⟩]
 refine⟨.inl Z,_,eU 190 (xs:=([(⟨4,(a.code.getD k default).a*(a.code.getD (k+1) default).a⟩:In)]).map In.cells) Z cR,_,Z,[190],by decide,Z,Z,Z⟩
 refine ac (af (bc (HS.lit O Z Z Z) Z (ag Z (jr ?_))))
 subst hB7
 subst hB9
 rw[show az a k=_ from cP hk]
 unfold bX
 rw[if_neg (dC z32),if_neg (dC z59),if_neg (iy z79),if_neg (iy z94),if_neg (rf z141),if_neg (t7 z161),if_neg (dC z179)]
 refine⟨.inl Z,_,bt,_,Z,[191],by decide,Z,Z,Z⟩
theorem wH{t:Tm}:MQ h1 h2 103 [ptr t.cells] [] (Rows (.agg [.d (.int .i64 t.c),.rs 0 0 t.xs.length]) [ce t.xs]):=by
 refine bd (jB 13 h1 h2 Tryz.func103 Z fun O hF=>?_)
 refine af (jl Z (jn (aa (gK [_,_,_,_,_,_,_,_,_,_,_] [pn [] 0 1,pn [0] 0 1,pn [0,1] 0 1,pn [0,1,2] 0 1,aN,ar [4],ar [4,5],ar [4,5,6],pe (rg 4 4) 0,pn (rg 0 9) 1 1,pe (rg 0 10) 1] [8,10] [_,_,_] (ai (kc Z (V Z)) (ai (kc Z (V Z)) (ai (kc Z (V Z)) (ai (kc Z (V Z)) (qW Z (ai (bM O (B0:=12000) Z Z Z Z (yi (xs:=t.xs) h1 h2) (ae Z) Z Z Z Z Z) (kc Z (ai (eS Z Z Z) trivial)))))))) ?_))))
 refine f9 ?_
 refine⟨.inl Z,_,bt,_,Z,[12000],by decide,Z,Z,Z⟩
theorem q8{ts:List Tm}:MQ h1 h2 71 [ff ts] [] (Rows (.c (.rs 0 0 ts.length)) [bA ts]):=by
 refine bd (jB 20 h1 h2 Tryz.func71 Z fun O hF=>?_)
 have hl:ts.length≤L:=by simpa[As.fact,A.fact,M.fact,D.fact,Ds.fact]using hF.1.1
 refine af (js Z (bm (bc (HS.lit O Z Z Z) Z (aA ?_))))
 refine js Z (jn (aa (af (js Z (jn (ah (al (X:=Nat) (fun i=>⟨[(0,ff ts),(3,.c (.rs 900 0 i)),(4,eI i)],[(900,bA (ts.take i))]⟩) (fun i=>i≤ts.length) (fun i=>ts.length-i) 0 ((am 5 900 Z Z).trans (Ent.to ⟨Z,Z,Z,aj⟩ Z)) ?_ (fun i hi=>?_))))))))
 exact co _
 refine aa (af (ag Z ?_))
 first|refine bP Z ?_|refine js Z ?_|refine aR Z Z ?_
 refine js Z (jf [9,0,3,4] Z (jn (ao Z (fun z9=>?_) (fun z9=>?_))))
 try simp only[aS]at z9
 refine ac (aa (ah (ab (bb Z ?_))))
 first|refine fO Z Z ?_|refine er Z Z ?_|refine aR Z Z ?_
 refine jf [15,12,9,0,3,4] Z (aC O (B0:=17000) Z Z Z Z (wH (t:=ts.getD i default) h1 h2) (ae Z) Z Z Z Z Z Z (aA ?_))
 refine jf [16,12,9,0,3,4] Z (bc (jy (ds:=Tm.cells (ts.getD i default)) O Z Z Z Z Z Z Z Z Z Z (.d Z (.rs Z (aQ _).symm .nil)) Z Z Z) Z (aA ?_))
 refine aA ?_
 refine jf [17,12,9,0,3,4] Z (bc (bE (zs:=(ts.take (i+1)).map Tm.cells) (n:=i+1) O Z Z Z Z Z Z Z Z Z Z Z Z Z Z Z Z (.row Z (by simp;omega)) Z Z (by decide) Z (by simp;omega) (by simp;omega) (by rw[List.take_succ_eq_append_getElem (by omega),List.map_append,au (by omega)];rfl) (by simp;omega)) Z (aA ?_))
 refine aA ?_
 refine js Z (jf [3,9,0,4] Z (jn (ab (js Z ?_))))
 first|refine ji Z ?_|refine aR Z Z ?_
 refine js Z (jf [4,3,9,0] Z (jn ?_))
 refine⟨i+1,((aq [18] (e':=[(0,_),(3,_),(4,_)]) Z Z ⟨Z,Z,Z,aj⟩ Z).trans (am 18 900 Z Z)),by omega,by omega⟩
 try simp only[aS]at z9
 refine aM (af (ag Z (jr ?_)))
 obtain rfl:i=ts.length:=by omega
 rw[List.take_length]
 refine⟨.inl Z,_,bt,_,Z,[900],by decide,Z,Z,Z⟩
theorem qb:MQ h1 h2 40 [ptr a.data] [] (Rows (gM a) [bA a.pre,bA a.post,cQ a.code,cK a.pts]):=by
 refine bd (jB 55 h1 h2 Tryz.func40 Z fun O hF=>?_)
 have hl:a.code.length≤L:=by simpa[As.fact,A.fact,M.fact,D.fact,Ds.fact]using hF.1.2.2.1.1
 have hlp:a.pts.length≤L:=by simpa[As.fact,A.fact,M.fact,D.fact,Ds.fact]using hF.1.2.2.2.1.1
 refine af (jl Z (aA ?_))
 refine jn (aa (qI O _ [_,_,_,_,_,_,_,_,_,_,_,_,_,_,_,_,_,_,_] [aN,ar [0],ar [0,1],ar [0,1,2],pe [0,1,2,3] 0,pn [] 0 1,pn [5] 0 1,pn [5,6] 0 1,pn [5,6,7] 0 1,pe [0,1,2,3,4,5,6,7,8] 1,pn [] 0 2,pn [] 0 2,pn [11] 0 2,pn [11,12] 0 2,pn [11,12,13] 0 2,pe [0,1,2,3,4,5,6,7,8,9,10,11,12,13,14] 2,pn [0,1,2,3,4,5,6,7,8,9,10,11,12,13,14,15] 3 3,pn [] 0 3,pe [0,1,2,3,4,5,6,7,8,9,10,11,12,13,14,15,16,17] 3] [4,9,15,18] 17 3 (.box [.d .nils,.d .nils,.d .nils,.d .nils]) [_,_,_,_] [_] [[],[],[],[]] Z Z (by decide) (by decide) (by decide) Z (by kernel_rfl) (ai (ai (aO (.inl (V Z)) (.inl (V Z))) Z) (ai (ai (aO (.inl (V Z)) (.inl (V Z))) Z) (ai (ai (aO (.inl (V Z)) (.inl (V Z))) Z) (ai (ai (aO (.inl (V Z)) (.inl (V Z))) Z) (ai (ai (aO (bF (bM O (B0:=10000) Z Z Z Z (q8 (ts:=a.pre) h1 h2) (ae Z) Z Z Z Z Z)) (bF (bM O (B0:=10000) Z Z Z Z (q8 (ts:=a.pre) h1 h2) (ae Z) Z Z Z Z Z))) Z) (ai (ai (ai (aO (.inl (V Z)) (.inl (V Z))) Z) (ai (aO (.inl (V Z)) (.inl (V Z))) Z)) (ai (ai (ai (aO (.inl (V Z)) (.inl (V Z))) Z) (ai (aO (.inl (V Z)) (.inl (V Z))) Z)) (ai (ai (ai (aO (.inl (V Z)) (.inl (V Z))) Z) (ai (aO (.inl (V Z)) (.inl (V Z))) Z)) (ai (ai (ai (aO (.inl (V Z)) (.inl (V Z))) Z) (ai (aO (.inl (V Z)) (.inl (V Z))) Z)) (ai (ai (aO (bF (bM O (B0:=15000) Z Z Z Z (q8 (ts:=a.post) h1 h2) (ae Z) Z Z Z Z Z)) (bF (bM O (B0:=15000) Z Z Z Z (q8 (ts:=a.post) h1 h2) (ae Z) Z Z Z Z Z))) Z) (ai (ai (ai (aO (.inr (fI O Z Z Z Z Z Z Z (by repeat' (first|exact .nil|refine .skip ?_|refine mK Z ?_|refine .cons Z (.box (FMs.keep Z)) ?_)))) (.inr (fI O Z Z Z Z Z Z Z (by repeat' (first|exact .nil|refine .skip ?_|refine mK Z ?_|refine .cons Z (.box (FMs.keep Z)) ?_))))) Z) (ai (ai (aO (.inr (fI O Z Z Z Z Z Z Z (by repeat' (first|exact .nil|refine .skip ?_|refine mK Z ?_|refine .cons Z (.box (FMs.keep Z)) ?_)))) (.inr (fI O Z Z Z Z Z Z Z (by repeat' (first|exact .nil|refine .skip ?_|refine mK Z ?_|refine .cons Z (.box (FMs.keep Z)) ?_))))) Z) (ai (aO (.inr (fI O Z Z Z Z Z Z Z (by repeat' (first|exact .nil|refine .skip ?_|refine mK Z ?_|refine .cons Z (.box (FMs.keep Z)) ?_)))) (.inr (fI O Z Z Z Z Z Z Z (by repeat' (first|exact .nil|refine .skip ?_|refine mK Z ?_|refine .cons Z (.box (FMs.keep Z)) ?_))))) Z))) (ai (ai (ai (aO (.inl (V Z)) (.inl (V Z))) Z) (ai (ai (aO (.inl (V Z)) (.inl (V Z))) Z) (ai (aO (.inl (V Z)) (.inl (V Z))) Z))) (ai (ai (ai (aO (.inl (V Z)) (.inl (V Z))) Z) (ai (ai (aO (.inl (V Z)) (.inl (V Z))) Z) (ai (aO (.inl (V Z)) (.inl (V Z))) Z))) (ai (ai (ai (aO (.inl (V Z)) (.inl (V Z))) Z) (ai (ai (aO (.inl (V Z)) (.inl (V Z))) Z) (ai (aO (.inl (V Z)) (.inl (V Z))) Z))) (ai (ai (ai (aO (.inl (V Z)) (.inl (V Z))) Z) (ai (ai (aO (.inl (V Z)) (.inl (V Z))) Z) (ai (aO (.inl (V Z)) (.inl (V Z))) Z))) (ai (ai (aO (bF (kZ (own:=true) (xs:=[]) (ys:=a.code.map In.cells) (zs:=a.code.map In.cells) (n:=a.code.length) O Z Z Z Z Z Z Z Z Z Z Z Z Z Z Z Z .ez (.slc (.inr cR)) (by simp) Z (by simp;omega) (by simp;omega) Z (by simp) Z)) (bF (kZ (own:=true) (xs:=[]) (ys:=a.code.map In.cells) (zs:=a.code.map In.cells) (n:=a.code.length) O Z Z Z Z Z Z Z Z Z Z Z Z Z Z Z Z .ez (.slc (.inr cR)) (by simp) Z (by simp;omega) (by simp;omega) Z (by simp) Z))) Z) (ai (ai (aO (.inl (V Z)) (.inl (V Z))) Z) (ai (ai (ai (bF (Eff.alloc O Z Z Z Z Z Z)) Z) (ai (ai (bF (Eff.alloc O Z Z Z Z Z Z)) Z) (ai (ai (bF (Eff.alloc O Z Z Z Z Z Z)) Z) (ai (bF (Eff.alloc O Z Z Z Z Z Z)) Z)))) (ai (ai (aO trivial (bF (eS Z Z Z))) Z) trivial))))))))))))))))))) ?_))
 refine jw [3,2,0] Z (ld ?_)
 refine aa (af (js Z (jn (ah (al (X:=Nat) (fun i=>⟨[(0,ptr a.data),(2,.c (.pt 2 0 0)),(3,.c (.pt 3 0 0)),(4,eI i)],[(2,.box [.d .nils,.d .nils,.d .nils,.d .nils]),(3,.box [.rs 10000 0 a.pre.length,.rs 15000 0 a.post.length,.rs 20 0 a.code.length,.rs 901 0 i]),(20,cQ a.code),(901,cK (a.pts.take i)),(10000,bA a.pre),(15000,bA a.post)]⟩) (fun i=>i≤a.pts.length) (fun i=>a.pts.length-i) 0 ((ea 3 901 2 true 3 Z Z Z).trans (Ent.to ⟨Z,Z,Z,Z,aj⟩ Z)) ?_ (fun i hi=>?_))))))
 exact co _
 refine aa (af (bp Z (js Z ?_)))
 first|refine bP Z ?_|refine js Z ?_|refine aR Z Z ?_
 refine js Z (jf [28,0,2,3,4] Z (jn (ao Z (fun z28=>?_) (fun z28=>?_))))
 try simp only[aS]at z28
 refine ac (aa (ah (u6 [_,_,_,_,_,_,_,_,_,_,_,_,_,_,_,_,_,_,_,_,_,_,_,_] [pn [] 0 2,pn [0] 0 2,pn [] 0 1,pn [2] 0 1,pn [2,3] 0 1,pn [2,3,4] 0 1,pn [] 0 1,pn (rg 2 5) 0 1,pn (rg 2 6) 0 1,pn (rg 2 7) 0 1,aN,ar [10],ar [10,11],ar [10,11,12],aN,ar (rg 10 5),ar (rg 10 6),ar (rg 10 7),pe (rg 10 8) 0,pn (rg 2 17) 1 1,pe (rg 2 18) 1,pe (rg 0 21) 2,pn (rg 0 22) 3 3,pe (rg 0 23) 3] [18,20,21,23] [_,_,_,_,_] [[],[50000],[901,51],[]] (ai (ka Z Z (ka Z Z (kw Z Z))) (ai (ka Z Z (ka Z Z (kw Z Z))) (ai (ka Z Z (kw Z Z)) (ai (ka Z Z (kw Z Z)) (ai (ka Z Z (kw Z Z)) (ai (ka Z Z (kw Z Z)) (ai (ka Z Z (kw Z Z)) (ai (ai (ai (vN Z) Z) (ai (vN Z) Z)) (ai (ka Z Z (kw Z Z)) (ai (ka Z Z (kw Z Z)) (ka Z Z (ka Z Z (ka Z Z (ka Z Z (ka Z Z (ai (ai (vN Z) Z) (ka Z Z (ka Z Z (ai (ai (bF (bM O (B0:=50000) Z Z Z Z (q8 (ts:=(a.pts.getD i default).fs) h1 h2) (ae Z) Z Z Z Z Z)) Z) (ka Z Z (ai (ai (ir (l:=50000) (ds:=(a.pts.getD i default).cells) O Z Z Z Z Z Z Z Z Z Z Z Z (fun e=>.d Z (.rs Z (aQ _).symm .nil)) Z Z) Z) (ai (ai (gt (xs:=(a.pts.take i).map Pt.cells) (ys:=[(a.pts.getD i default).cells]) (zs:=(a.pts.take (i+1)).map Pt.cells) (n:=i+1) O Z Z Z Z Z Z Z Z Z Z Z Z Z Z Z Z (.row Z (by simp;omega)) Z Z (by decide) Z (by simp;omega) (by simp;omega) (by rw[List.take_succ_eq_append_getElem (show i<a.pts.length by omega),au (show i<a.pts.length by omega),List.map_append];rfl) (by simp;omega) Z) Z) (ka Z Z (ai (ai (bF (eS Z Z Z)) Z) trivial)))))))))))))))))))))))) ?_)))
 refine jw [28,0,2,3,4] Z (ld ?_)
 refine ab (js Z ?_)
 first|refine ji Z ?_|refine aR Z Z ?_
 refine js Z (jf [4,28,0,2,3] Z (jn ?_))
 refine⟨i+1,((aq [2,3,20,52,10000,15000] (e':=[(0,_),(2,_),(3,_),(4,_)]) Z Z ⟨Z,Z,Z,Z,aj⟩ Z).trans (am 52 901 Z Z)),by omega,by omega⟩
 try simp only[aS]at z28
 refine aM (af (js Z (jo Z (aA ?_))))
 refine jr ?_
 obtain rfl:i=a.pts.length:=by omega
 rw[List.take_length]
 refine⟨.inl Z,_,bt,_,Z,[10000,15000,20,901],by decide,Z,Z,Z⟩
theorem sc{x:In}{k l:Int}(h:(bif bI x then decide (k<x.a)else false)=true):fu k l x=⟨x.op,x.a-l⟩:=by
 obtain⟨h1,h2⟩:=kk h
 unfold fu;rw[if_pos ⟨h1,bZ h2⟩]
theorem qq{x:In}{k l:Int}(h:(bif bI x then decide (k<x.a)else false)=false):fu k l x=x:=by
 unfold fu;rw[if_neg (fun c=>by rw[c.1,decide_eq_true c.2]at h;cases h)]
theorem uv{k n:Nat}{b:List In}(hkn:k+n≤a.code.length)(h80:a.code.length≤80)(hbn:b.length≤n)(hx: ∀x∈dB a k n b,-1000000≤x.a∧x.a≤1000000)(hp: ∀p∈a.pts,0≤p.k∧p.k≤79):MQ h1 h2 76 [ptr a.data,eI k,eI n,cn b] [] (Rows (gM (bU a k n b)) [bA a.pre,bA a.post,cQ (bU a k n b).code,cK (bU a k n b).pts]):=by
 refine bd (jB 101 h1 h2 Tryz.func76 Z fun O hF=>?_)
 have hl:a.code.length≤L:=by simpa[As.fact,A.fact,M.fact,D.fact,Ds.fact]using hF.1.2.2.1.1
 have hlp:a.pts.length≤L:=by simpa[As.fact,A.fact,M.fact,D.fact,Ds.fact]using hF.1.2.2.2.1.1
 have hcl:(bU a k n b).code.length=(dB a k n b).length:=by simp[bU]
 have hnl:(dB a k n b).length+n=a.code.length+b.length:=by simp only[dB,cG,List.length_take,List.length_drop];omega
 refine af (jl Z (aA ?_))
 refine bm (js Z (aC O (B0:=15000) Z Z Z Z (qb (a:=a) h1 h2) (ae Z) Z Z Z Z Z Z (aA ?_)))
 refine jf [14,8,0,1,2,3] Z (jl Z (aA ?_))
 refine jo Z (aA ?_)
 refine bm (ag Z (ak ((bK O Z Z Z Z Z Z Z Z).cast (v':=eI b.length) (by simp)) Z ?_))
 first|refine ji Z ?_|refine aR Z Z ?_
 refine js Z (jf [10,9,14,8,0,1,2,3] Z (bm (bc (HS.lit O Z Z Z) Z (aA ?_))))
 refine bp Z (js Z (ak (eW (sz:=2) (xs:=a.code.map In.cells) (a:=0) (b:=k) (ys:=(a.code.take k).map In.cells) O Z Z Z Z Z Z Z Z Z Z km ⟨co _,by simp;omega⟩ (by simp[List.map_take])) Z (jf [25,19,10,9,14,8,0,1,2,3] Z (bc (lq (own:=true) (xs:=[]) (ys:=(a.code.take k).map In.cells) (zs:=(a.code.take k).map In.cells) (n:=(a.code.take k).length) O Z (.row Z Z) (.slc (.inr cR)) mi Z (by simp;omega) (by simp;omega) Z (by simp)) Z (aA ?_)))))
 refine aA ?_
 refine js Z (jf [27,26,10,9,14,8,0,1,2,3] Z (bc (lq (own:=true) (xs:=(a.code.take k).map In.cells) (ys:=b.map In.cells) (zs:=((a.code.take k)++b).map In.cells) (n:=((a.code.take k)++b).length) O Z (.row Z (by simp)) (.slc (.inr cR)) mi Z (by simp;omega) (by simp;omega) (by simp) (by simp)) Z (aA ?_)))
 refine aA ?_
 refine js Z (jf [29,28,10,9,14,8,0,1,2,3] Z (jo Z (aA ?_)))
 refine jf [10,9,14,8,0,1,2,3] Z (jn (aa (u6 [_,_,_,_,_,_,_,_,_,_,_,_,_] [aN,ar [0],aN,ar [2],ar [2,3],ar [2,3,4],aN,aN,ar [6,7],ar (rg 2 7),pe (rg 0 10) 0,pn (rg 0 11) 1 1,pe (rg 0 12) 1] [10,12] [_,_,_] [[28],[]] (ka Z Z (ka Z Z (ka Z Z (ka Z Z (ka Z Z (ka Z Z (ka Z Z (ka Z Z (ai (ai (vF Z) Z) (ai (ai (eW (sz:=2) (xs:=a.code.map In.cells) (a:=k+n) (b:=(a.code.map In.cells).length) (ys:=(a.code.drop (k+n)).map In.cells) O Z Z Z Z Z Z Z Z Z (wl (by omega)) Z ⟨by simp;omega,cm _⟩ (by rw[List.take_of_length_le (by simp),List.map_drop])) Z) (ai (ai (gu (own:=true) (xs:=((a.code.take k)++b).map In.cells) (ys:=(a.code.drop (k+n)).map In.cells) (zs:=(dB a k n b).map In.cells) (n:=(bU a k n b).code.length) O Z Z Z Z Z Z Z Z Z Z Z Z Z Z Z Z (.row Z (by simp)) (.slc (.inr cR)) mi Z (by simp;omega) (by simp;omega) (by simp) (by rw[aQ,hcl]) Z) Z) (ka Z Z (ai (ai (bF (eS Z Z Z)) Z) trivial))))))))))))) ?_)))
 refine jw [10,9,14,8,0,1,2,3] Z (ld ?_)
 refine aa (af (js Z (jn (ah (al (X:=Nat) (fun i=>⟨[(1,eI k),(8,.c (.pt 8 0 0)),(9,.c (.pt 9 0 0)),(10,eI ((n:Int)-b.length)),(11,eI i)],[(8,.box [.d .nils,.d .nils,.d .nils,.d .nils]),(9,.box [.rs 15000 0 a.pre.length,.rs 15001 0 a.post.length,.rs 900 0 (bU a k n b).code.length,.rs 15003 0 a.pts.length]),(900,.row true 2 ((e6 (fu k ((n:Int)-b.length)) (dB a k n b) i).map In.cells)),(15000,bA a.pre),(15001,bA a.post),(15003,cK a.pts)]⟩) (fun i=>i≤(dB a k n b).length) (fun i=>(dB a k n b).length-i) 0 (((aq [8,9,40,15000,15001,15003] (e':=[(1,_),(8,_),(9,_),(10,_),(11,_)]) Z Z ⟨Z,Z,Z,Z,Z,aj⟩ Z).trans (am 40 900 Z Z)).trans (Ent.to ⟨Z,Z,Z,Z,Z,aj⟩ Z)) ?_ (fun i hi=>?_))))))
 exact co _
 refine aa (af (bb Z ?_))
 first|refine bP Z ?_|refine js Z ?_|refine aR Z Z ?_
 refine js Z (jf [46,1,8,9,10,11] Z (jn (ao Z (fun z46=>?_) (fun z46=>?_))))
 refine ac (aa (ah (aa ?_)))
 have hil:i<(dB a k n b).length:=by have:=bZ z46;omega
 refine bu ⟨[(64,eB (bif bI ((dB a k n b).getD i default)then decide ((k:Int)<((dB a k n b).getD i default).a)else false)),(1,eI k),(8,.c (.pt 8 0 0)),(9,.c (.pt 9 0 0)),(10,eI ((n:Int)-b.length)),(11,eI i)],[(8,.box [.d .nils,.d .nils,.d .nils,.d .nils]),(9,.box [.rs 15000 0 a.pre.length,.rs 15001 0 a.post.length,.rs 900 0 (bU a k n b).code.length,.rs 15003 0 a.pts.length]),(900,.row true 2 ((e6 (fu k ((n:Int)-b.length)) (dB a k n b) i).map In.cells)),(15000,bA a.pre),(15001,bA a.post),(15003,cK a.pts)]⟩ ?_ ?_
 refine ab ?_
 have hil:i<(dB a k n b).length:=by have:=bZ z46;omega
 refine bb Z ?_
 first|refine fO Z Z ?_|refine er Z Z ?_|refine aR Z Z ?_
 refine ak (aW O (ex:=((dB a k n b).getD i default).cells) Z Z Z Z (cE hil (by simp)) Z) Z (jf [53,46,1,8,9,10,11] Z (ba Z (uq h1 h2) 55000 Z ?_))
 cases hb55:bI ((dB a k n b).getD i default)with
 | true=>
  refine js Z (jf [55,46,1,8,9,10,11] Z (bh Z (js Z (bh Z (js Z (jf [57,55,46,1,8,9,10,11] Z (bh Z (js Z (bh Z ?_)))))))))
  first|refine fO Z Z ?_|refine er Z Z ?_|refine aR Z Z ?_
  refine jf [59,55,46,1,8,9,10,11] Z (bh Z (js Z (jf [60,55,46,1,8,9,10,11] Z (bh Z (ak (aW O (ex:=((dB a k n b).getD i default).cells) Z Z Z Z (cE hil (by simp)) Z) Z (jf [61,55,46,1,8,9,10,11] Z (bh Z (js Z (bh Z (js Z (ak (aB O Z Z Z Z Z) Z (jf [64,46,1,8,9,10,11] Z (jn ?_)))))))))))))
  exact⟨Z,Ent.to ⟨Z,Z,Z,Z,Z,Z,aj⟩ Z⟩
 | false=>
  refine js Z (jf [55,46,1,8,9,10,11] Z (ay Z (ay Z (jf [57,55,46,1,8,9,10,11] Z (ay Z (ay Z (jf [59,55,46,1,8,9,10,11] Z (ay Z (jf [60,55,46,1,8,9,10,11] Z (ay Z (jf [61,55,46,1,8,9,10,11] Z (ay Z (ay Z (ak (ap O Z Z Z Z Z) Z (jf [64,46,1,8,9,10,11] Z (jn ?_))))))))))))))))
  exact⟨Z,Ent.to ⟨Z,Z,Z,Z,Z,Z,aj⟩ Z⟩
 refine ao Z (fun z64=>?_) (fun z64=>?_)
 refine ab (bb Z ?_)
 first|refine fO Z Z ?_|refine er Z Z ?_|refine aR Z Z ?_
 refine js Z ?_
 have hxi:=hx _ (bW hil)
 refine ak (aW O (ex:=((dB a k n b).getD i default).cells) Z Z Z Z (cE hil (by simp)) Z) Z (js Z ?_)
 first|refine ji Z ?_|refine aR Z Z ?_
 first|refine fO Z Z ?_|refine er Z Z ?_|refine aR Z Z ?_
 refine js Z (jf [74,72,64,1,8,9,10,11] Z (bc (bl (ex:=((dB a k n b).getD i default).cells) (xs':=(e6 (fu k ((n:Int)-b.length)) (dB a k n b) (i+1)).map In.cells) O Z Z Z Z Z Z Z Z Z Z Z Z Z Z (cE hil (by simp)) (ge hil (by simp) (by rw[sc z64];rfl))) Z (aA ?_)))
 refine aA ?_
 refine jf [64,1,8,9,10,11] Z (jn (ab (js Z ?_)))
 first|refine ji Z ?_|refine aR Z Z ?_
 refine js Z (jf [11,64,1,8,9,10] Z (jn ?_))
 refine⟨i+1,Ent.to ⟨Z,Z,Z,Z,Z,aj⟩ Z,by omega,by omega⟩
 refine ac (ab (js Z ?_))
 first|refine ji Z ?_|refine aR Z Z ?_
 refine js Z (jf [11,64,1,8,9,10] Z (jn ?_))
 have e9:e6 (fu k ((n:Int)-b.length)) (dB a k n b) (i+1)=e6 (fu k ((n:Int)-b.length)) (dB a k n b) i:=iL hil (qq z64)
 rw[←e9]
 refine⟨i+1,Ent.to ⟨Z,Z,Z,Z,Z,aj⟩ Z,by omega,by omega⟩
 refine aM (aa (af ?_))
 obtain rfl:i=(dB a k n b).length:=by have:=cS z46;omega
 rw[iA]
 refine js Z (jn (ah (al (X:=Nat) (fun i=>⟨[(1,eI k),(8,.c (.pt 8 0 0)),(9,.c (.pt 9 0 0)),(10,eI ((n:Int)-b.length)),(12,eI i)],[(8,.box [.d .nils,.d .nils,.d .nils,.d .nils]),(9,.box [.rs 15000 0 a.pre.length,.rs 15001 0 a.post.length,.rs 900 0 (bU a k n b).code.length,.rs 15003 0 a.pts.length]),(900,cQ (bU a k n b).code),(15000,bA a.pre),(15001,bA a.post),(15003,.row true 2 ((e6 (lp k ((n:Int)-b.length)) a.pts i).map Pt.cells))]⟩) (fun i=>i≤a.pts.length) (fun i=>a.pts.length-i) 0 (Ent.to ⟨Z,Z,Z,Z,Z,aj⟩ Z) ?_ (fun i hi=>?_))))
 exact co _
 refine aa (af (bb Z ?_))
 first|refine bP Z ?_|refine js Z ?_|refine aR Z Z ?_
 refine js Z (jf [79,1,8,9,10,12] Z (jn (ao Z (fun z79=>?_) (fun z79=>?_))))
 refine ac (aa (ah (af ?_)))
 have hil:i<a.pts.length:=by have:=bZ z79;omega
 refine bb Z ?_
 first|refine fO Z Z ?_|refine er Z Z ?_|refine aR Z Z ?_
 refine js Z (ak (aW O (ex:=(a.pts.getD i default).cells) Z Z Z Z (cE hil (by simp)) Z) Z (ag Z (jf [89,79,1,8,9,10,12] Z (jn (ao Z (fun z89=>?_) (fun z89=>?_))))))
 refine ab (bb Z ?_)
 first|refine fO Z Z ?_|refine er Z Z ?_|refine aR Z Z ?_
 refine js Z ?_
 have hpi:=hp _ (gc hil)
 refine ak (aW O (ex:=(a.pts.getD i default).cells) Z Z Z Z (cE hil (by simp)) Z) Z (js Z ?_)
 first|refine ji Z ?_|refine aR Z Z ?_
 first|refine fO Z Z ?_|refine er Z Z ?_|refine aR Z Z ?_
 refine js Z (jf [99,97,89,79,1,8,9,10,12] Z (bc (bl (ex:=(a.pts.getD i default).cells) (xs':=(e6 (lp k ((n:Int)-b.length)) a.pts (i+1)).map Pt.cells) O Z Z Z Z Z Z Z Z Z Z Z Z Z Z (cE hil (by simp)) (ge hil (by simp) (by unfold lp;rw[if_pos (bZ z89)];rfl))) Z (aA ?_)))
 refine aA ?_
 refine jf [89,79,1,8,9,10,12] Z (jn (ab (js Z ?_)))
 first|refine ji Z ?_|refine aR Z Z ?_
 refine js Z (jf [12,89,79,1,8,9,10] Z (jn ?_))
 refine⟨i+1,Ent.to ⟨Z,Z,Z,Z,Z,aj⟩ Z,by omega,by omega⟩
 refine ac (ab (js Z ?_))
 first|refine ji Z ?_|refine aR Z Z ?_
 refine js Z (jf [12,89,79,1,8,9,10] Z (jn ?_))
 have e9:e6 (lp k ((n:Int)-b.length)) a.pts (i+1)=e6 (lp k ((n:Int)-b.length)) a.pts i:=iL hil (by unfold lp;rw[if_neg (cS z89)])
 rw[←e9]
 refine⟨i+1,Ent.to ⟨Z,Z,Z,Z,Z,aj⟩ Z,by omega,by omega⟩
 refine aM (af (js Z (jo Z (aA ?_))))
 refine jr ?_
 obtain rfl:i=a.pts.length:=by have:=cS z79;omega
 rw[iA]
 have hpl:a.pts.length=(bU a k n b).pts.length:=by simp[bU]
 rw[hpl]
 refine⟨.inl Z,_,bt,_,Z,[15000,15001,900,15003],by decide,Z,Z,Z⟩
theorem tk{a:An}(h:AOk a){k:Nat}(hr:0<(az a k).1): ∀x∈dB a k (az a k).1 (az a k).2,-1000000≤x.a∧x.a≤1000000:=by
 have hs: ∀x∈dA a.code a.pts k,aE x=true:=fun x hx=>by
  obtain⟨i,hi,rfl⟩:=List.getElem_of_mem hx
  have h1:=fQ (c:=a.code) (ps:=a.pts) (k:=k)
  have:=dW hi
  rw[au hi,au (by omega)]at this
  rw[this];exact h.code _ (List.getElem_mem _)
 intro x hx
 simp only[dB,dO,List.mem_append]at hx
 rcases hx with hx|hx|hx
 exact cv (h.code x (List.mem_of_mem_take hx))
 exact cv ((cN hr).ok hs x hx)
 exact cv (h.code x (List.mem_of_mem_drop hx))
abbrev jd(a:An):List B:=[bA a.pre,bA a.post,cQ a.code,cK a.pts]
theorem c68(hA:AOk a):MQ h1 h2 43 [ptr a.data] [] (Rows (gM (bT a)) (jd (bT a))):=by
 refine bd (jB 28 h1 h2 Tryz.func43 Z fun O hF=>?_)
 refine af (jl Z (aA ?_))
 refine bm (js Z (jf [7,2] Z (aC O (B0:=9000) Z Z Z Z (qb (a:=a) h1 h2) (ae Z) Z Z Z Z Z Z (aA ?_))))
 refine jf [8,2] Z (jl Z (aA ?_))
 refine jo Z (aA ?_)
 refine jn (aa (af (js Z (jn (ah (al (X:=An×Nat) (fun x=>⟨[(2,.c (.pt 2 0 0)),(3,.c (.pt 3 0 0)),(4,eI x.2)],[(2,.box [.d .nils,.d .nils,.d .nils,.d .nils]),(3,.box [.rs 900 0 x.1.pre.length,.rs 901 0 x.1.post.length,.rs 902 0 x.1.code.length,.rs 903 0 x.1.pts.length]),(900,bA x.1.pre),(901,bA x.1.post),(902,cQ x.1.code),(903,cK x.1.pts)]⟩) (fun x=>Fo a x.1 x.2) (fun x=>x.1.code.length*100+(x.1.code.length-x.2)) (a,0) ((((((aq [2,3,9000,9001,9002,9003] (e':=[(2,_),(3,_),(4,_)]) Z Z ⟨Z,Z,Z,aj⟩ Z).trans (am 9000 900 Z Z)).trans (am 9001 901 Z Z)).trans (am 9002 902 Z Z)).trans (am 9003 903 Z Z)).trans (Ent.to ⟨Z,Z,Z,aj⟩ Z)) ?_ (fun x hi=>?_)))))))
 exact Fo.zero hA
 have h80:=hi.ok.len
 refine aa (af (bb Z ?_))
 first|refine bP Z ?_|refine js Z ?_|refine aR Z Z ?_
 refine js Z (jf [13,2,3,4] Z (jn (ao Z (fun z13=>?_) (fun z13=>?_))))
 refine ac (aa (ah (af (js Z ?_))))
 have hk:x.2<x.1.code.length:=by have:=bZ z13;omega
 refine aC O (B0:=19000) Z Z Z Z (yq (a:=x.1) (k:=x.2) h1 h2 hi.ok hk) (.cons (.c (.pb Z (.cons (.whole Z (aQ _).symm) (.cons (.whole Z (aQ _).symm) (.cons (.whole Z (aQ _).symm) (.cons (.whole Z (aQ _).symm) .nil)))))) (.cons (.c .d) .nil)) Z Z Z Z Z Z (aA ?_)
 refine bp Z (js Z (jf [6,5,13,2,3,4] Z (bm (ag Z (jn (ao Z (fun z22=>?_) (fun z22=>?_)))))))
 refine af (bb Z (jf [25,24,23,22,21,5,13,2,3,4] Z ?_))
 have hr:0<(az x.1 x.2).1:=by have:=bZ z22;omega
 have hin:=fT hr
 have hrl:(az x.1 x.2).2.length≤(az x.1 x.2).1:=Nat.le_of_lt (cN hr).lt
 have hsl:=me hr
 refine aC O (B0:=27000) Z Z Z Z (uv (a:=x.1) (k:=x.2) (n:=(az x.1 x.2).1) (b:=(az x.1 x.2).2) h1 h2 hin hi.ok.len hrl (tk hi.ok hr) hi.ok.pts) (.cons (.c (.pb Z (.cons (.whole Z (aQ _).symm) (.cons (.whole Z (aQ _).symm) (.cons (.whole Z (aQ _).symm) (.cons (.whole Z (aQ _).symm) .nil)))))) (.cons (.c .d) (.cons (.c .d) (.cons (.c (.whole Z (aQ _).symm)) .nil)))) Z Z Z Z Z Z (aA ?_)
 refine jf [26,22,21,5,13,2,3,4] Z (jo Z (aA ?_))
 refine jn (ab (js Z (jn (ab (js Z ?_)))))
 first|refine ji Z ?_|refine aR Z Z ?_
 refine js Z (jf [4,26,22,21,5,13,2,3] Z (jn ?_))
 refine⟨((bU x.1 x.2 (az x.1 x.2).1 (az x.1 x.2).2),0),(((((aq [2,3,27000,27001,27002,27003] (e':=[(2,_),(3,_),(4,_)]) Z Z ⟨Z,Z,Z,aj⟩ Z).trans (am 27000 900 Z Z)).trans (am 27001 901 Z Z)).trans (am 27002 902 Z Z)).trans (am 27003 903 Z Z)).trans (Ent.to ⟨Z,Z,Z,aj⟩ Z),hi.step hk hr,by show((bU x.1 x.2 (az x.1 x.2).1 (az x.1 x.2).2)).code.length*100+(((bU x.1 x.2 (az x.1 x.2).1 (az x.1 x.2).2)).code.length-0)<x.1.code.length*100+(x.1.code.length-x.2);omega⟩
 refine ac (ab (js Z ?_))
 first|refine ji Z ?_|refine aR Z Z ?_
 refine js Z (jf [4,22,21,6,5,13,2,3] Z (jn ?_))
 refine⟨(x.1,x.2+1),(aq [2,3,900,901,902,903] (e':=[(2,_),(3,_),(4,_)]) Z Z ⟨Z,Z,Z,aj⟩ Z).trans (Ent.to ⟨Z,Z,Z,aj⟩ Z),hi.skip hk (by have:=cS z22;omega),by show x.1.code.length*100+(x.1.code.length-(x.2+1))<x.1.code.length*100+(x.1.code.length-x.2);omega⟩
 refine aM (af (js Z (jo Z (aA ?_))))
 refine jr ?_
 rw[show bT a=x.1 from hi.done (by have:=cS z13;omega)]
 refine⟨.inl Z,_,bt,_,Z,[900,901,902,903],by decide,Z,Z,Z⟩
theorem vC{x:Int}:MQ h1 h2 109 [eI x] [] (Plain (eB (cH 0 79 x))):=by
 refine av ?_ Z
 refine jB 5 h1 h2 Tryz.func109 Z fun O hF=>?_
 refine af (js Z (bm (js Z (ba Z (n6 h1 h2) 5000 Z (js Z (jr ?_))))))
 refine aD Z ?_
 first|rfl|skip
theorem yd:MQ h1 h2 83 [.agg (x.cells.map .d)] [] (Plain (eB (aE x))):=by
 refine av ?_ Z
 refine jB 37 h1 h2 Tryz.func83 Z fun O hF=>?_
 refine af (jx Z (js Z (jn (aa (af (ag Z (jn (ah (aa (af (ag Z (jn (ao Z (fun z5=>?_) (fun z5=>?_))))))))))))))
 try simp only[aS]at z5
 refine ac (ao Z (fun z5=>?_) (fun z5=>?_))
 try simp only[aS]at z5
 refine af (ag Z (jf [9,6,4,3,2,1,0] Z (ba Z (p8 h1 h2) 11000 Z (js Z (jf [2,6,4,3,1,0] Z (jr ?_))))))
 refine aD Z ?_
 unfold aE cH;simp_all
 try simp only[aS]at z5
 contradiction
 try simp only[aS]at z5
 refine ab (ag Z (jn (ao Z (fun z5=>?_) (fun z5=>?_))))
 try simp only[aS]at z5
 refine af (ag Z (jf [9,7,6,4,3,2,1,0] Z (ba Z (p8 h1 h2) 11000 Z (js Z (jf [2,7,6,4,3,1,0] Z (jr ?_))))))
 refine aD Z ?_
 unfold aE cH;simp_all
 try simp only[aS]at z5
 refine aa (af (ag Z (jf [11,7,6,4,3,2,1,0] Z (jn (ao Z (fun z11=>?_) (fun z11=>?_))))))
 try simp only[aS]at z11
 refine ac (ao Z (fun z11=>?_) (fun z11=>?_))
 try simp only[aS]at z11
 refine af (ag Z (jf [15,7,6,4,3,2,1,0] Z (ba Z (vE h1 h2) 17000 Z (js Z (jf [2,7,6,4,3,1,0] Z (jr ?_))))))
 refine aD Z ?_
 unfold aE cH;simp_all
 try simp only[aS]at z11
 contradiction
 try simp only[aS]at z11
 refine ab (ag Z (jn (ao Z (fun z11=>?_) (fun z11=>?_))))
 try simp only[aS]at z11
 refine af (ag Z (jf [15,13,7,6,4,3,2,1,0] Z (ba Z (vE h1 h2) 17000 Z (js Z (jf [2,13,7,6,4,3,1,0] Z (jr ?_))))))
 refine aD Z ?_
 unfold aE cH;simp_all
 try simp only[aS]at z11
 refine aa (af (ag Z (jf [17,13,7,6,4,3,2,1,0] Z (jn (ao Z (fun z17=>?_) (fun z17=>?_))))))
 try simp only[aS]at z17
 refine ac (ao Z (fun z17=>?_) (fun z17=>?_))
 try simp only[aS]at z17
 refine af (ag Z (jf [21,13,7,6,4,3,2,1,0] Z (ba Z (vC h1 h2) 23000 Z (js Z (jf [2,13,7,6,4,3,1,0] Z (jr ?_))))))
 refine aD Z ?_
 unfold aE cH;simp_all
 try simp only[aS]at z17
 contradiction
 try simp only[aS]at z17
 refine ab (ag Z (jn (ao Z (fun z17=>?_) (fun z17=>?_))))
 try simp only[aS]at z17
 refine af (ag Z (jf [21,19,13,7,6,4,3,2,1,0] Z (ba Z (vC h1 h2) 23000 Z (js Z (jf [2,19,13,7,6,4,3,1,0] Z (jr ?_))))))
 refine aD Z ?_
 unfold aE cH;simp_all
 try simp only[aS]at z17
 refine af (ag Z (jf [23,19,13,7,6,4,3,2,1,0] Z (jn (ao Z (fun z23=>?_) (fun z23=>?_)))))
 try simp only[aS]at z23
 refine af (ag Z (jf [26,19,13,7,6,4,3,2,1,0] Z (ba Z (x5 h1 h2) 28000 Z (js Z (jf [2,19,13,7,6,4,3,1,0] Z (jr ?_))))))
 refine aD Z ?_
 unfold aE cH;simp_all
 try simp only[aS]at z23
 refine aa (af (ag Z (jf [28,19,13,7,6,4,3,2,1,0] Z (jn (ao Z (fun z28=>?_) (fun z28=>?_))))))
 try simp only[aS]at z28
 refine ac (ao Z (fun z28=>?_) (fun z28=>?_))
 try simp only[aS]at z28
 refine af (bp Z (jf [2,28,19,13,7,6,4,3,1,0] Z (jr ?_)))
 refine aD Z ?_
 unfold aE cH;simp_all
 try simp only[aS]at z28
 contradiction
 try simp only[aS]at z28
 refine af (ag Z (jn (ao Z (fun z28=>?_) (fun z28=>?_))))
 try simp only[aS]at z28
 refine ac (ao Z (fun z28=>?_) (fun z28=>?_))
 try simp only[aS]at z28
 refine af (bp Z (jf [2,28,30,19,13,7,6,4,3,1,0] Z (jr ?_)))
 refine aD Z ?_
 unfold aE cH;simp_all
 try simp only[aS]at z28
 contradiction
 try simp only[aS]at z28
 refine af (ag Z (jn (ao Z (fun z28=>?_) (fun z28=>?_))))
 try simp only[aS]at z28
 refine ac (ao Z (fun z28=>?_) (fun z28=>?_))
 try simp only[aS]at z28
 refine af (bp Z (jf [2,28,31,30,19,13,7,6,4,3,1,0] Z (jr ?_)))
 refine aD Z ?_
 unfold aE cH;simp_all
 try simp only[aS]at z28
 contradiction
 try simp only[aS]at z28
 refine af (ag Z (jn (ao Z (fun z28=>?_) (fun z28=>?_))))
 try simp only[aS]at z28
 refine ac (ao Z (fun z28=>?_) (fun z28=>?_))
 try simp only[aS]at z28
 refine af (bp Z (jf [2,32,31,30,19,13,7,6,4,3,1,0] Z (jr ?_)))
 refine aD Z ?_
 unfold aE cH;simp_all
 try simp only[aS]at z28
 contradiction
 try simp only[aS]at z28
 refine ab (ag Z (jn (ao Z (fun z28=>?_) (fun z28=>?_))))
 try simp only[aS]at z28
 refine af (bp Z (jf [2,33,32,31,30,19,13,7,6,4,3,1,0] Z (jr ?_)))
 refine aD Z ?_
 unfold aE cH;simp_all
 try simp only[aS]at z28
 refine ac (af (js Z (jr ?_)))
 refine aD Z ?_
 unfold aE cH;simp_all
theorem ye:MQ h1 h2 82 [.agg (x.cells.map .d)] [] (Plain (eB (!aE x))):=by
 refine av ?_ Z
 refine jB 6 h1 h2 Tryz.func82 Z fun O hF=>?_
 refine af (jx Z (js Z (bm (js Z (jf [3,2,0] Z (ba Z (yd h1 h2) 5000 Z (ag Z (jf [2,0] Z (jr ?_)))))))))
 refine aD Z ?_
 first|rfl|skip
theorem uu:MQ h1 h2 59 [.agg (x.cells.map .d)] [] (Plain (eB (bI x))):=by
 refine av ?_ Z
 refine jB 11 h1 h2 Tryz.func59 Z fun O hF=>?_
 refine af (jx Z (js Z (bm (bp Z (jf [6,2,1,0] Z (aX 3 Z Z Z (fun hx=>aF hx Z (aF hx Z (aF hx Z (AN.nil)))) Z Z ?_))))))
 first|refine ak (aK O Z Z Z Z Z) Z ?_|refine ak (Val.pickB O Z Z Z Z Z) Z ?_|refine ak (aI O Z Z Z Z Z) Z ?_
 refine js Z (jf [2,0] Z (jr ?_))
 refine aD Z ?_
 unfold bI;cases decide (x.op=5)<;>rfl
variable{e:Int}
theorem ym:MQ h1 h2 99 [.agg (x.cells.map .d),ptr [.int .i64 e]] [] (Plain (eB (bI x&&decide (x.a=e)))):=by
 refine av ?_ Z
 refine jB 12 h1 h2 Tryz.func99 Z fun O hF=>?_
 refine af (jx Z (js Z (bm (js Z (ba Z (uu h1 h2) 6000 Z (js Z (jf [6,3,2,0,1] Z (aX 4 Z Z Z (fun hx=>aF hx Z (aF hx Z (aF hx Z (aF hx Z (AN.nil))))) Z Z ?_))))))))
 first|refine ak (aI O Z Z Z Z Z) Z ?_|refine ak (aK O Z Z Z Z Z) Z ?_|refine ak (Val.pickB O Z Z Z Z Z) Z ?_
 refine js Z (jf [3,0] Z (jr ?_))
 refine aD Z ?_
 rw[Bool.cond_false_right]
theorem x8{p:Pt}:MQ h1 h2 92 [.agg (p.cells.map .d),ptr [.int .i64 k]] [] (Plain (eB (decide (p.k=k)))):=by
 refine av ?_ Z
 refine jB 8 h1 h2 Tryz.func92 Z fun O hF=>?_
 refine af (jx Z (js Z (bm (bp Z (js Z (jf [3,0] Z (jr ?_)))))))
 refine aD Z ?_
 first|rfl|skip
theorem vH{n:Int}:MQ h1 h2 120 [.agg (x.cells.map .d),eI n] [] (Plain (eB (decide (x.op=0)&&decide (x.a=n)))):=by
 refine av ?_ Z
 refine jB 14 h1 h2 Tryz.func120 Z fun O hF=>?_
 refine af (jx Z (js Z (bm (bp Z (jf [8,4,2,0,1] Z (aX 4 Z Z Z (fun hx=>aF hx Z (aF hx Z (aF hx Z (aF hx Z (AN.nil))))) Z Z ?_))))))
 first|refine ak (aI O Z Z Z Z Z) Z ?_|refine ak (aK O Z Z Z Z Z) Z ?_|refine ak (Val.pickB O Z Z Z Z Z) Z ?_
 refine js Z (jf [4,0] Z (jr ?_))
 refine aD Z ?_
 rw[Bool.cond_false_right]
def jW{α:Type}(p:α→Bool)(l:List α):Int:=if l.any p=true then(l.findIdx p:Nat)else -1
theorem kq{α:Type}{p:α→Bool}{l:List α}(h: ∀j (hj:j<l.length),p l[j]=false):jW p l= -1:=by rw[jW,if_neg (by rw[ou h];decide)]
theorem kr{α:Type}{p:α→Bool}{l:List α}{i:Nat}(hi:i<l.length)(h: ∀j (hj:j<l.length),j<i→p l[j]=false)(hn:p l[i]=true):jW p l=i:=by
 rw[jW,if_pos (mt i hi hn)]
 exact congrArg Nat.cast ((List.findIdx_eq hi).2 ⟨hn,fun j hj=>by simp[h j (by omega) hj]⟩)
theorem og{α:Type}{p:α→Bool}{l:List α}:decide (jW p l≥0)=l.any p:=by
 unfold jW
 cases h:l.any p<;>simp
theorem iE{α:Type}{p:α→Bool}{l:List α}:decide (jW p l<0)= !l.any p:=by
 unfold jW
 cases h:l.any p<;>simp
theorem wv:MQ h1 h2 106 [cn c,.c (.fn 82 [])] [] (Plain (eI (jW (fun x:In=>!aE x) c))):=by
 refine av ?_ Z
 refine jB 19 h1 h2 Tryz.func106 Z fun O hF=>?_
 have hl:c.length≤L:=by simpa[As.fact,A.fact,M.fact,D.fact,Ds.fact]using hF.1.1
 refine af (js Z (jn (aa (af (js Z ?_)))))
 first|refine bP Z ?_|refine js Z ?_|refine aR Z Z ?_
 refine js Z (jn (ah (al (X:=Nat) (fun i=>⟨[(0,cn c),(1,.c (.fn 82 [])),(7,eI c.length),(8,eI i)],[]⟩) (fun i=>i≤c.length∧∀j (h:j<c.length),j<i→(fun x:In=>!aE x) c[j]=false) (fun i=>c.length-i) 0 (Ent.env ⟨Z,Z,Z,Z,aj⟩) ?_ (fun i hi=>?_))))
 exact⟨co _,fun j h hj=>absurd hj (Nat.not_lt_zero j)⟩
 refine af (js Z (jn (aa (ao Z (fun z9=>?_) (fun z9=>?_)))))
 refine ac (aa (ah (af ?_)))
 have hil:i<c.length:=by have:=bZ z9;omega
 refine ag Z (bm (bb Z ?_))
 first|refine fO Z Z ?_|refine er Z Z ?_|refine aR Z Z ?_
 refine js Z (cy [(15,_),(11,_),(5,_),(10,_),(9,_),(0,_),(1,_),(7,_),(8,_)] [] ⟨Z,Z,Z,Z,Z,Z,Z,Z,Z,aj⟩ Z (ba Z (ye (x:=c.getD i default) h1 h2) 17000 Z (jf [16,5,10,9,0,1,7,8] Z (jn (ao Z (fun z16=>?_) (fun z16=>?_))))))
 refine af (ag Z (jr ?_))
 refine aD Z ?_
 rw[au hil]at z16
 rw[kr hil hi.2 z16]
 refine ac (ab ?_)
 first|refine ji Z ?_|refine aR Z Z ?_
 refine js Z (jn ?_)
 refine⟨i+1,Ent.env ⟨Z,Z,Z,Z,aj⟩,⟨by omega,fun j h hj=>?_⟩,by omega⟩
 by_cases e:j=i
 subst e;rw[au h]at z16;exact z16
 exact hi.2 j h (by omega)
 refine aM (af (js Z (jr ?_)))
 refine aD Z ?_
 have h9:=cS z9
 rw[kq (fun j hj=>hi.2 j hj (by omega))]
theorem ww:MQ h1 h2 106 [cn c,.c (.fn 99 [.d (.ptr [.int .i64 e] 0)])] [] (Plain (eI (jW (fun x:In=>bI x&&decide (x.a=e)) c))):=by
 refine av ?_ Z
 refine jB 19 h1 h2 Tryz.func106 Z fun O hF=>?_
 have hl:c.length≤L:=by simpa[As.fact,A.fact,M.fact,D.fact,Ds.fact]using hF.1.1
 refine af (js Z (jn (aa (af (js Z ?_)))))
 first|refine bP Z ?_|refine js Z ?_|refine aR Z Z ?_
 refine js Z (jn (ah (al (X:=Nat) (fun i=>⟨[(0,cn c),(1,.c (.fn 99 [.d (.ptr [.int .i64 e] 0)])),(7,eI c.length),(8,eI i)],[]⟩) (fun i=>i≤c.length∧∀j (h:j<c.length),j<i→(fun x:In=>bI x&&decide (x.a=e)) c[j]=false) (fun i=>c.length-i) 0 (Ent.env ⟨Z,Z,Z,Z,aj⟩) ?_ (fun i hi=>?_))))
 exact⟨co _,fun j h hj=>absurd hj (Nat.not_lt_zero j)⟩
 refine af (js Z (jn (aa (ao Z (fun z9=>?_) (fun z9=>?_)))))
 refine ac (aa (ah (af ?_)))
 have hil:i<c.length:=by have:=bZ z9;omega
 refine ag Z (bm (bb Z ?_))
 first|refine fO Z Z ?_|refine er Z Z ?_|refine aR Z Z ?_
 refine js Z (cy [(15,_),(11,_),(5,_),(10,_),(9,_),(0,_),(1,_),(7,_),(8,_)] [] ⟨Z,Z,Z,Z,Z,Z,Z,Z,Z,aj⟩ Z (ba Z (ym (e:=e) (x:=c.getD i default) h1 h2) 17000 Z (jf [16,5,10,9,0,1,7,8] Z (jn (ao Z (fun z16=>?_) (fun z16=>?_))))))
 refine af (ag Z (jr ?_))
 refine aD Z ?_
 rw[au hil]at z16
 rw[kr hil hi.2 z16]
 refine ac (ab ?_)
 first|refine ji Z ?_|refine aR Z Z ?_
 refine js Z (jn ?_)
 refine⟨i+1,Ent.env ⟨Z,Z,Z,Z,aj⟩,⟨by omega,fun j h hj=>?_⟩,by omega⟩
 by_cases e:j=i
 subst e;rw[au h]at z16;exact z16
 exact hi.2 j h (by omega)
 refine aM (af (js Z (jr ?_)))
 refine aD Z ?_
 have h9:=cS z9
 rw[kq (fun j hj=>hi.2 j hj (by omega))]
theorem x9{ps:List Pt}:MQ h1 h2 91 [lY ps,.c (.fn 92 [.d (.ptr [.int .i64 k] 0)])] [] (Plain (eI (jW (fun p:Pt=>decide (p.k=k)) ps))):=by
 refine av ?_ Z
 refine jB 19 h1 h2 Tryz.func91 Z fun O hF=>?_
 have hl:ps.length≤L:=by simpa[As.fact,A.fact,M.fact,D.fact,Ds.fact]using hF.1.1
 refine af (js Z (jn (aa (af (js Z ?_)))))
 first|refine bP Z ?_|refine js Z ?_|refine aR Z Z ?_
 refine js Z (jn (ah (al (X:=Nat) (fun i=>⟨[(0,lY ps),(1,.c (.fn 92 [.d (.ptr [.int .i64 k] 0)])),(7,eI ps.length),(8,eI i)],[]⟩) (fun i=>i≤ps.length∧∀j (h:j<ps.length),j<i→(fun p:Pt=>decide (p.k=k)) ps[j]=false) (fun i=>ps.length-i) 0 (Ent.env ⟨Z,Z,Z,Z,aj⟩) ?_ (fun i hi=>?_))))
 exact⟨co _,fun j h hj=>absurd hj (Nat.not_lt_zero j)⟩
 refine af (js Z (jn (aa (ao Z (fun z9=>?_) (fun z9=>?_)))))
 refine ac (aa (ah (af ?_)))
 have hil:i<ps.length:=by have:=bZ z9;omega
 refine ag Z (bm (bb Z ?_))
 first|refine fO Z Z ?_|refine er Z Z ?_|refine aR Z Z ?_
 refine js Z (cy [(15,_),(11,_),(5,_),(10,_),(9,_),(0,_),(1,_),(7,_),(8,_)] [] ⟨Z,Z,Z,Z,Z,Z,Z,Z,Z,aj⟩ Z (ba Z (x8 (k:=k) (p:=ps.getD i default) h1 h2) 17000 Z (jf [16,5,10,9,0,1,7,8] Z (jn (ao Z (fun z16=>?_) (fun z16=>?_))))))
 refine af (ag Z (jr ?_))
 refine aD Z ?_
 rw[au hil]at z16
 rw[kr hil hi.2 z16]
 refine ac (ab ?_)
 first|refine ji Z ?_|refine aR Z Z ?_
 refine js Z (jn ?_)
 refine⟨i+1,Ent.env ⟨Z,Z,Z,Z,aj⟩,⟨by omega,fun j h hj=>?_⟩,by omega⟩
 by_cases e:j=i
 subst e;rw[au h]at z16;exact z16
 exact hi.2 j h (by omega)
 refine aM (af (js Z (jr ?_)))
 refine aD Z ?_
 have h9:=cS z9
 rw[kq (fun j hj=>hi.2 j hj (by omega))]
theorem wK:MQ h1 h2 81 [cn c,.c (.fn 82 [])] [] (Plain (eB (c.any (fun x:In=>!aE x)))):=by
 refine av ?_ Z
 refine jB 9 h1 h2 Tryz.func81 Z fun O hF=>?_
 refine af (js Z (bm (ag Z (aP O Z Z Z Z (wv (c:=c) h1 h2) (.cons (.c .d) (.cons (.c (.fn .nil)) .nil)) Z Z Z Z Z (B0:=8000) Z (ag Z (jr ?_))))))
 refine aD Z ?_
 exact congrArg eB og
theorem ue:MQ h1 h2 81 [cn c,.c (.fn 99 [.d (.ptr [.int .i64 e] 0)])] [] (Plain (eB (fC c e))):=by
 refine av ?_ Z
 refine jB 9 h1 h2 Tryz.func81 Z fun O hF=>?_
 refine af (js Z (bm (ag Z (aP O Z Z Z Z (ww (c:=c) (e:=e) h1 h2) (.cons (.c .d) (.cons (.c (.fn (.cons .d .nil))) .nil)) Z Z Z Z Z (B0:=8000) Z (ag Z (jr ?_))))))
 refine aD Z ?_
 exact congrArg eB og
theorem yn:MQ h1 h2 49 [cn c] [] (Plain (eB (dE c))):=by
 refine av ?_ Z
 refine jB 12 h1 h2 Tryz.func49 Z fun O hF=>?_
 have hl:c.length≤L:=by simpa[As.fact,A.fact,M.fact,D.fact,Ds.fact]using hF.1.1
 refine af (js Z (bm (js Z ?_)))
 first|refine bP Z ?_|refine js Z ?_|refine aR Z Z ?_
 refine ba Z (ur h1 h2) 6000 Z (ba Z (n6 h1 h2) 7000 Z (js Z (aX 3 Z Z Z (fun hx=>aF hx Z (cd O hx Z Z Z Z (wK (c:=c) h1 h2) (.cons (.c .d) (.cons (.c (.fn .nil)) .nil)) Z Z Z Z Z Z Z (B0:=10000) Z (aF hx Z (AN.nil)))) Z Z ?_)))
 first|refine ak (aI O Z Z Z Z Z) Z ?_|refine ak (aK O Z Z Z Z Z) Z ?_|refine ak (Val.pickB O Z Z Z Z Z) Z ?_
 refine js Z (jr ?_)
 refine aD Z ?_
 rw[Bool.cond_false_right,show dE c=_ from Bool.and_comm _ _,List.all_eq_not_any_not]
theorem p9:MQ h1 h2 56 [aAn a,eI k] [] (Plain (eI (jW (fun p:Pt=>decide (p.k=k)) a.pts))):=by
 refine av ?_ Z
 refine jB 9 h1 h2 Tryz.func56 Z fun O hF=>?_
 refine af (jx Z (aA ?_))
 refine bw (Ent.freeze 2 (e':=[(2,_),(1,_)]) Z (.cons Z (.c (.box (cs:=a.data) Z (aV Z))) (fe [1] Z)) (.skip .nil)) ?_
 refine aA ?_
 refine jx Z (aA ?_)
 refine bw (Ent.freeze 3 (e':=[(3,_),(2,_)]) Z (.cons Z (.c (.box (cs:=[.int .i64 k]) Z (aV Z))) (fe [2] Z)) (.skip .nil)) ?_
 refine aA ?_
 refine js Z (bm (bb Z (jf [7,6,4] Z (aP O Z Z Z Z (x9 (ps:=a.pts) (k:=k) h1 h2) (.cons (.c .d) (.cons (.c (.fn (.cons .d .nil))) .nil)) Z Z Z Z Z (B0:=9000) Z (js Z (jf [4] Z (jr ?_)))))))
 refine aD Z ?_
 first|rfl|skip
theorem xe{a:An}{i:Nat}:(bif (bif !bQ (a.pts.getD i default).fs 6 then true else !(cH 0 ((a.code.length:Int)-1) (a.pts.getD i default).k))then true else(bif decide ((0:Int)<i)then decide ((a.pts.getD i default).k≤(a.pts.getD (i-1) default).k)else false))= !nW a.code.length a.pts i:=by
 unfold nW cH
 rw[show decide ((0:Int)<i)=decide (0<i)from decide_eq_decide.2 (by omega)]
 cases decide (0≤(a.pts.getD i default).k)<;>cases decide ((a.pts.getD i default).k≤(a.code.length:Int)-1)<;>cases bQ (a.pts.getD i default).fs 6<;>cases decide (0<i)<;>cases decide ((a.pts.getD i default).k≤(a.pts.getD (i-1) default).k)<;>rfl
theorem va:MQ h1 h2 19 [aAn a] [] (Plain (eB (bB a))):=by
 refine av ?_ Z
 refine jB 65 h1 h2 Tryz.func19 Z fun O hF=>?_
 have hl:a.code.length≤L:=by simpa[As.fact,A.fact,M.fact,Ms.fact,D.fact,Ds.fact]using hF.1.2.2.1.1
 have hlp:a.pts.length≤L:=by simpa[As.fact,A.fact,M.fact,Ms.fact,D.fact,Ds.fact]using hF.1.2.2.2.1.1
 refine af (jx Z (aA ?_))
 refine bw (Ent.freeze 1 (e':=[(1,_),(0,_)]) Z (.cons Z (.c (.box (cs:=a.data) Z (aV Z))) (fe [0] Z)) (.skip .nil)) ?_
 refine aA ?_
 refine js Z (jn (aa (af (ag Z (jf [6,2,1,0] Z (ba Z (yn h1 h2) 8000 Z (ag Z (jf [9,2,1,0] Z (aX 4 Z Z Z (fun hx=>aF hx Z (aF hx Z (cd O hx Z Z Z Z (qa h1 h2) (ae Z) Z Z Z Z Z Z Z (B0:=13000) Z (aF hx Z (AN.nil))))) Z Z ?_)))))))))
 first|refine ak (aK O Z Z Z Z Z) Z ?_|refine ak (Val.pickB O Z Z Z Z Z) Z ?_|refine ak (aI O Z Z Z Z Z) Z ?_
 refine js Z (jf [15,2,1,0] Z (aX 4 Z Z Z (fun hx=>aF hx Z (aF hx Z (cd O hx Z Z Z Z (qa h1 h2) (ae Z) Z Z Z Z Z Z Z (B0:=19000) Z (aF hx Z (AN.nil))))) Z Z ?_))
 first|refine ak (aK O Z Z Z Z Z) Z ?_|refine ak (Val.pickB O Z Z Z Z Z) Z ?_|refine ak (aI O Z Z Z Z Z) Z ?_
 refine js Z (jf [21,2,1,0] Z (aX 4 Z Z Z (fun hx=>aF hx Z (aF hx Z (ed hx (bK O Z Z Z Z Z Z Z Z) Z (aF hx Z (AN.nil))))) Z Z ?_))
 first|refine ak (aK O Z Z Z Z Z) Z ?_|refine ak (Val.pickB O Z Z Z Z Z) Z ?_|refine ak (aI O Z Z Z Z Z) Z ?_
 refine jf [26,2,1,0] Z (jn (ao Z (fun z26=>?_) (fun z26=>?_)))
 refine af (js Z (jr ?_))
 refine aD Z ?_
 rw[rN z26]
 refine ac (aa (af (ag Z ?_)))
 first|refine bP Z ?_|refine js Z ?_|refine aR Z Z ?_
 refine js Z (jf [30,29,28,2,1,0] Z (jn (ah (al (X:=Nat) (fun i=>⟨[(1,ptr a.data),(28,lY a.pts),(29,eI a.pts.length),(30,eI i)],[]⟩) (fun i=>i≤a.pts.length∧∀j,j<i→nW a.code.length a.pts j=true) (fun i=>a.pts.length-i) 0 (Ent.env ⟨Z,Z,Z,Z,aj⟩) ?_ (fun i hi=>?_)))))
 exact⟨co _,fun j hj=>absurd hj (Nat.not_lt_zero j)⟩
 refine af (js Z (jn (aa (ao Z (fun z31=>?_) (fun z31=>?_)))))
 refine ac (aa (ah (af ?_)))
 have hil:i<a.pts.length:=by have:=bZ z31;omega
 have hcl:=(lO (iI z26).2.2).2
 refine js Z ?_
 first|refine fO Z Z ?_|refine er Z Z ?_|refine aR Z Z ?_
 refine js Z (jf [34,32,31,1,28,29,30] Z (jl Z (aA ?_)))
 refine js Z (jf [3,4,34,31,1,28,29,30] Z (jo Z (aA ?_)))
 refine bw (Ent.freeze 4 (e':=[(4,_),(1,_),(28,_),(29,_),(30,_),(3,_)]) Z (.cons Z (.c (.box (cs:=(a.pts.getD i default).cells) Z (aV Z))) (fe [1,28,29,30,3] Z)) (.skip .nil)) ?_
 refine aA ?_
 refine jn (aa (bu (F:=⟨[(63,eB (bif (bif !bQ (a.pts.getD i default).fs 6 then true else !(cH 0 ((a.code.length:Int)-1) (a.pts.getD i default).k))then true else(bif decide ((0:Int)<i)then decide ((a.pts.getD i default).k≤(a.pts.getD (i-1) default).k)else false))),(1,ptr a.data),(28,lY a.pts),(29,eI a.pts.length),(30,eI i)],[]⟩) ?_ ?_))
 cases hb6:!bQ (a.pts.getD i default).fs 6 with
 | true=>
  refine jV [_,_,_,_,_,_,_,_,_,_,_,_,_,_,_,_,_,_,_,_,_,_,_,_,_,_,_,_,_] [aN,ar [0],pe [0,1] 0,pn [0,1,2] 1 1,pn (rg 0 4) 1 1,pn (rg 0 5) 0 1,pn (rg 0 6) 0 1,pn (rg 0 5) 0 1,pn [0,1,2,3,4,7] 0 1,pn [0,1,2,3,4,7,8] 0 1,pn (rg 0 10) 0 1,pn (rg 0 11) 0 1,pn (rg 0 12) 1 1,pn (rg 0 13) 1 1,pn (rg 0 14) 0 1,pn (rg 0 15) 0 1,pn (rg 0 16) 0 1,pn (rg 0 17) 0 1,pn (rg 0 18) 0 1,pn (rg 0 17) 0 1,pn (rg 0 17++[19]) 0 1,pn (rg 0 21) 0 1,pn (rg 0 22) 0 1,pn (rg 0 23) 0 1,pn (rg 0 17) 0 1,pn (rg 0 17++[24]) 0 1,pn (rg 0 26) 0 1,pn (rg 0 27) 0 1,pn (rg 0 28) 1 1] [2] [_,_] (kc Z (kc Z (ai (aG O (B0:=38000) Z Z Z Z (qa h1 h2) (ae Z) Z Z Z Z Z) (ai ((V Z).cast (v':=eB true) (congrArg eB hb6)) (kc Z (ai ⟨Z,Z⟩ (ai ⟨Z,Z⟩ (ai ⟨Z,Z⟩ (ai ⟨Z,Z⟩ (ai ⟨Z,Z⟩ (ai ⟨Z,Z⟩ (ai ⟨Z,Z⟩ (ai (aB O Z Z Z Z Z) (kc Z (ai ⟨Z,Z⟩ (ai ⟨Z,Z⟩ (ai ⟨Z,Z⟩ (ai ⟨Z,Z⟩ (ai ⟨Z,Z⟩ (ai ⟨Z,Z⟩ (ai ⟨Z,Z⟩ (ai ⟨Z,Z⟩ (ai ⟨Z,Z⟩ (ai ⟨Z,Z⟩ (ai ⟨Z,Z⟩ (ai ⟨Z,Z⟩ (ai ⟨Z,Z⟩ (ai ⟨Z,Z⟩ (ai (aB O Z Z Z Z Z) trivial))))))))))))))))))))))))))))) ?_
  exact⟨Z,Ent.env ⟨Z,Z,Z,Z,Z,aj⟩⟩
 | false=>
  cases hb6b:!(cH 0 ((a.code.length:Int)-1) (a.pts.getD i default).k)with
  | true=>
   refine jV [_,_,_,_,_,_,_,_,_,_,_,_,_,_,_,_,_,_,_,_,_,_,_,_,_,_,_,_,_] [aN,ar [0],pe [0,1] 0,pn [0,1,2] 1 1,pn (rg 0 4) 1 1,pn (rg 0 5) 1 1,pn (rg 0 6) 1 1,pn (rg 0 5) 1 1,pn [0,1,2,3,4,7] 1 1,pn [0,1,2,3,4,7,8] 1 1,pe (rg 0 10) 1,pn (rg 0 11) 2 2,pn (rg 0 12) 2 2,pn (rg 0 13) 2 2,pn (rg 0 14) 0 2,pn (rg 0 15) 0 2,pn (rg 0 16) 0 2,pn (rg 0 17) 0 2,pn (rg 0 18) 0 2,pn (rg 0 17) 0 2,pn (rg 0 17++[19]) 0 2,pn (rg 0 21) 0 2,pn (rg 0 22) 0 2,pn (rg 0 23) 0 2,pn (rg 0 17) 0 2,pn (rg 0 17++[24]) 0 2,pn (rg 0 26) 0 2,pn (rg 0 27) 0 2,pn (rg 0 28) 2 2] [2,10] [_,_,_] (kc Z (kc Z (ai (aG O (B0:=38000) Z Z Z Z (qa h1 h2) (ae Z) Z Z Z Z Z) (ai ((V Z).cast (v':=eB false) (congrArg eB hb6)) (kc Z (kc Z (kc Z (kc Z (kc Z (ai (bK O Z Z Z Z Z Z Z Z) (ai (aG O (B0:=46000) Z Z Z Z (u9 (k:=(a.pts.getD i default).k) (n:=a.code.length) h1 h2 (by omega)) (ae Z) Z Z Z Z Z) (ai ((V Z).cast (v':=eB true) (congrArg eB hb6b)) (ai (ap O Z Z Z Z Z) (kc Z (ai ⟨Z,Z⟩ (ai ⟨Z,Z⟩ (ai ⟨Z,Z⟩ (ai ⟨Z,Z⟩ (ai ⟨Z,Z⟩ (ai ⟨Z,Z⟩ (ai ⟨Z,Z⟩ (ai ⟨Z,Z⟩ (ai ⟨Z,Z⟩ (ai ⟨Z,Z⟩ (ai ⟨Z,Z⟩ (ai ⟨Z,Z⟩ (ai ⟨Z,Z⟩ (ai ⟨Z,Z⟩ (ai (aB O Z Z Z Z Z) trivial))))))))))))))))))))))))))))) ?_
   exact⟨Z,Ent.env ⟨Z,Z,Z,Z,Z,aj⟩⟩
  | false=>
   cases hb6c:decide ((0:Int)<i)with
   | true=>
    have hi0:0<i:=by have:=bZ hb6c;omega
    refine jV [_,_,_,_,_,_,_,_,_,_,_,_,_,_,_,_,_,_,_,_,_,_,_,_,_,_,_,_,_] [aN,ar [0],pe [0,1] 0,pn [0,1,2] 1 1,pn (rg 0 4) 1 1,pn (rg 0 5) 1 1,pn (rg 0 6) 1 1,pn (rg 0 5) 1 1,pn [0,1,2,3,4,7] 1 1,pn [0,1,2,3,4,7,8] 1 1,pe (rg 0 10) 1,pn (rg 0 11) 2 2,pn (rg 0 12) 2 2,pn (rg 0 13) 2 2,pn (rg 0 14) 2 2,pn (rg 0 15) 2 2,pn (rg 0 16) 2 2,pn (rg 0 17) 2 2,pn (rg 0 18) 2 2,pn (rg 0 17) 2 2,pn (rg 0 17++[19]) 2 2,pn (rg 0 21) 2 2,pn (rg 0 22) 2 2,pn (rg 0 23) 2 2,pn (rg 0 17) 2 2,pn (rg 0 17++[24]) 2 2,pn (rg 0 26) 2 2,pn (rg 0 27) 2 2,pn (rg 0 28) 2 2] [2,10] [_,_,_] (kc Z (kc Z (ai (aG O (B0:=38000) Z Z Z Z (qa h1 h2) (ae Z) Z Z Z Z Z) (ai ((V Z).cast (v':=eB false) (congrArg eB hb6)) (kc Z (kc Z (kc Z (kc Z (kc Z (ai (bK O Z Z Z Z Z Z Z Z) (ai (aG O (B0:=46000) Z Z Z Z (u9 (k:=(a.pts.getD i default).k) (n:=a.code.length) h1 h2 (by omega)) (ae Z) Z Z Z Z Z) (ai ((V Z).cast (v':=eB false) (congrArg eB hb6b)) (ai (ap O Z Z Z Z Z) (kc Z (kc Z (ai ((V Z).cast (v':=eB true) (congrArg eB hb6c)) (kc Z (kc Z (kc Z (kc Z (ai ((vF Z).cast (v':=eI ((i-1:Nat):Int)) (congrArg eI (by omega))) (ai (vN Z) (kc Z (kc Z (kc Z (kc Z (kc Z (ai (aB O Z Z Z Z Z) (ai (ap O Z Z Z Z Z) trivial))))))))))))))))))))))))))))) ?_
    exact⟨Z,Ent.env ⟨Z,Z,Z,Z,Z,aj⟩⟩
   | false=>
    refine jV [_,_,_,_,_,_,_,_,_,_,_,_,_,_,_,_,_,_,_,_,_,_,_,_,_,_,_,_,_] [aN,ar [0],pe [0,1] 0,pn [0,1,2] 1 1,pn (rg 0 4) 1 1,pn (rg 0 5) 1 1,pn (rg 0 6) 1 1,pn (rg 0 5) 1 1,pn [0,1,2,3,4,7] 1 1,pn [0,1,2,3,4,7,8] 1 1,pe (rg 0 10) 1,pn (rg 0 11) 2 2,pn (rg 0 12) 2 2,pn (rg 0 13) 2 2,pn (rg 0 14) 2 2,pn (rg 0 15) 2 2,pn (rg 0 16) 2 2,pn (rg 0 17) 0 2,pn (rg 0 18) 0 2,pn (rg 0 17) 0 2,pn (rg 0 17++[19]) 0 2,pn (rg 0 21) 0 2,pn (rg 0 22) 0 2,pn (rg 0 23) 0 2,pn (rg 0 17) 0 2,pn (rg 0 17++[24]) 0 2,pn (rg 0 26) 0 2,pn (rg 0 27) 2 2,pn (rg 0 28) 2 2] [2,10] [_,_,_] (kc Z (kc Z (ai (aG O (B0:=38000) Z Z Z Z (qa h1 h2) (ae Z) Z Z Z Z Z) (ai ((V Z).cast (v':=eB false) (congrArg eB hb6)) (kc Z (kc Z (kc Z (kc Z (kc Z (ai (bK O Z Z Z Z Z Z Z Z) (ai (aG O (B0:=46000) Z Z Z Z (u9 (k:=(a.pts.getD i default).k) (n:=a.code.length) h1 h2 (by omega)) (ae Z) Z Z Z Z Z) (ai ((V Z).cast (v':=eB false) (congrArg eB hb6b)) (ai (ap O Z Z Z Z Z) (kc Z (kc Z (ai ((V Z).cast (v':=eB false) (congrArg eB hb6c)) (kc Z (ai ⟨Z,Z⟩ (ai ⟨Z,Z⟩ (ai ⟨Z,Z⟩ (ai ⟨Z,Z⟩ (ai ⟨Z,Z⟩ (ai ⟨Z,Z⟩ (ai ⟨Z,Z⟩ (ai ⟨Z,Z⟩ (ai ⟨Z,Z⟩ (ai ⟨Z,Z⟩ (ai (ap O Z Z Z Z Z) (ai (ap O Z Z Z Z Z) trivial))))))))))))))))))))))))))))) ?_
    exact⟨Z,Ent.env ⟨Z,Z,Z,Z,Z,aj⟩⟩
 refine ao Z (fun z63=>?_) (fun z63=>?_)
 refine af (js Z (jr ?_))
 refine aD Z ?_
 rw[(iI z26).1,m6 i hil (lg (xe.symm.trans z63))]
 refine ac (ab ?_)
 first|refine ji Z ?_|refine aR Z Z ?_
 refine js Z (jn ?_)
 have h9:nW a.code.length a.pts i=true:=pZ (xe.symm.trans z63)
 refine⟨i+1,Ent.env ⟨Z,Z,Z,Z,aj⟩,⟨by omega,fun j hj=>?_⟩,by omega⟩
 by_cases e:j=i
 subst e;exact h9
 exact hi.2 j (by omega)
 refine aM (af (js Z (jr ?_)))
 refine aD Z ?_
 rw[(iI z26).1,pC fun j hj=>hi.2 j (by have:=cS z31;omega)]
theorem qv{c:List In}{os:List Int}{i:Nat}(hc:i<c.length)(ho:i<os.length):bf (os.drop i) (c.drop i)=(decide ((c.getD i default).op=os.getD i default)&&bf (os.drop (i+1)) (c.drop (i+1))):=by
 rw[List.drop_eq_getElem_cons hc,List.drop_eq_getElem_cons ho,bf,au hc,au ho]
theorem jY:MQ h1 h2 119 [cq os,ptr [c7 c]] [] (Plain (eB (bf os c))):=by
 refine av ?_ Z
 refine jB 26 h1 h2 Tryz.func119 Z fun O hF=>?_
 have hlo:os.length≤L:=by simpa[As.fact,A.fact,M.fact,D.fact,Ds.fact]using hF.1.1
 have hl:c.length≤L:=by simpa[As.fact,A.fact,M.fact,D.fact,Ds.fact]using hF.2.1.1.1
 refine af (js Z (jn (aa (af (js Z ?_)))))
 first|refine bP Z ?_|refine js Z ?_|refine aR Z Z ?_
 refine js Z ?_
 first|refine bP Z ?_|refine js Z ?_|refine aR Z Z ?_
 refine js Z (jf [10,3,0,1] Z (jn (ao Z (fun z10=>?_) (fun z10=>?_))))
 refine af (js Z (jr ?_))
 refine aD Z ?_
 rw[ij (by have:=bZ z10;omega)]
 refine ac (aa (af (js Z ?_)))
 first|refine bP Z ?_|refine js Z ?_|refine aR Z Z ?_
 refine js Z (jn (ah (al (X:=Nat) (fun i=>⟨[(1,ptr [c7 c]),(11,cq os),(12,eI os.length),(13,eI i)],[]⟩) (fun i=>i≤os.length∧bf (os.drop i) (c.drop i)=bf os c) (fun i=>os.length-i) 0 (Ent.env ⟨Z,Z,Z,Z,aj⟩) ?_ (fun i hi=>?_))))
 exact⟨co _,Z⟩
 refine af (js Z (jn (aa (ao Z (fun z14=>?_) (fun z14=>?_)))))
 refine ac (aa (ah (af ?_)))
 have hil:i<os.length:=by have:=bZ z14;omega
 have hic:i<c.length:=by have:=cS z10;omega
 have h8:=qv hic hil
 refine js Z ?_
 first|refine fO Z Z ?_|refine er Z Z ?_|refine aR Z Z ?_
 refine bb Z (jf [5,4,14,1,11,12,13] Z (bm (ag Z ?_)))
 first|refine fO Z Z ?_|refine er Z Z ?_|refine aR Z Z ?_
 refine bp Z (jf [24,14,1,11,12,13] Z (jn (ao Z (fun z24=>?_) (fun z24=>?_))))
 refine af (js Z (jr ?_))
 refine aD Z ?_
 rw[←hi.2,h8,lg z24,Bool.false_and]
 refine ac (ab ?_)
 first|refine ji Z ?_|refine aR Z Z ?_
 refine js Z (jn ?_)
 rw[pZ z24,Bool.true_and]at h8
 exact⟨i+1,Ent.env ⟨Z,Z,Z,Z,aj⟩,⟨by omega,h8.symm.trans hi.2⟩,by omega⟩
 refine aM (af (js Z (jr ?_)))
 refine aD Z ?_
 obtain rfl:i=os.length:=by have:=cS z14;omega
 rw[←hi.2,List.drop_length]
 rfl
theorem fj{s:List In}(hs: ∀x∈s,aE x=true){os:List Int}(h:bf os s=true){i:Nat}(hi:i<os.length)(ho:os.getD i default=0∨os.getD i default=4):fN (s.getD i default).a=true:=
  kU (hs _ (bW (Nat.lt_of_lt_of_le hi (bG h)))) (by rw[fG h i hi];exact ho)
theorem q6{s:List In}(h0:0<s.length){o:Int}:bf [o] s=decide ((s.getD 0 default).op=o):=by
 match s with
 | x::r=>simp[bf]
theorem vu{s:List In}(h0:0<s.length){p:Int}:bf [(s.getD 0 default).op,p] s=(decide ((1:Int)<s.length)&&decide ((s.getD 1 default).op=p)):=by
 match s with
 | [x]=>simp[bf]
 | x::y::r=>simp[bf];omega
theorem vt{s:List In}(h0:0<s.length){p q:Int}:bf [(s.getD 0 default).op,p,q] s=(decide ((2:Int)<s.length)&&(decide ((s.getD 1 default).op=p)&&decide ((s.getD 2 default).op=q))):=by
 match s with
 | [x]=>simp[bf]
 | [x,y]=>simp[bf]
 | x::y::z::r=>
  have:(2:Int)<(x::y::z::r).length:=by simp only[dF];omega
  rw[decide_eq_true this]
  simp[bf]
theorem qk{s:List In}(h0:0<s.length):(bif bif bf [1] s then true else bf [3] s then true else bf [7] s)=bi (s.getD 0 default):=by
 rw[q6 h0,q6 h0,q6 h0]
 unfold bi
 cases decide ((s.getD 0 default).op=1)<;>cases decide ((s.getD 0 default).op=3)<;>rfl
theorem iz{a:Bool}{p:Prop}[Decidable p](h:(bif a then decide p else false)=false): ¬(a=true∧p):=by
 rintro⟨h1,h2⟩
 rw[h1,decide_eq_true h2]at h;cases h
theorem mO{a:Bool}{p:Prop}[Decidable p](h:(bif a then decide p else false)=true):a=true∧p:=⟨(kk h).1,bZ (kk h).2⟩
theorem wt{s:List In}(h0:0<s.length)(h:(bif (bif (bif (bif bi (s.getD 0 default)then true else bf [4] s)then decide ((2:Int)<s.length)else false)then(decide ((s.getD 1 default).op=0)&&decide ((s.getD 1 default).a=0))else false)then decide ((s.getD 2 default).op=3)else false)=true):2<s.length∧(bi (s.getD 0 default)=true∨(s.getD 0 default).op=4)∧bf [(s.getD 0 default).op,0,3] s=true∧(s.getD 1 default).a=0:=by
 obtain⟨h,h5⟩:=mO h
 obtain⟨h,h4⟩:=kk h
 obtain⟨h,h3⟩:=mO h
 rw[bD]at h4
 refine⟨by omega,?_,by rw[vt h0,decide_eq_true h3,h4.1,decide_eq_true h5];rfl,bZ h4.2⟩
 rw[q6 h0]at h
 cases hp:bi (s.getD 0 default)with
 | true=>exact .inl Z
 | false=>rw[hp]at h;exact .inr (bZ h)
theorem ol{s:List In}(h0:0<s.length)(h:(bif (bif (bif (bif bi (s.getD 0 default)then true else bf [4] s)then decide ((2:Int)<s.length)else false)then(decide ((s.getD 1 default).op=0)&&decide ((s.getD 1 default).a=0))else false)then decide ((s.getD 2 default).op=3)else false)=false): ¬((bi (s.getD 0 default)=true∨(s.getD 0 default).op=4)∧bf [(s.getD 0 default).op,0,3] s=true∧(s.getD 1 default).a=0):=by
 rintro⟨h1,h2,h3⟩
 rw[vt h0]at h2
 simp only[bD]at h2
 have h6:(bif bi (s.getD 0 default)then true else bf [4] s)=true:=by
  rcases h1 with h1|h1
  rw[h1];rfl
  rw[q6 h0,decide_eq_true h1];cases bi (s.getD 0 default)<;>rfl
 rw[h6,h2.1,h2.2.1,h2.2.2,decide_eq_true h3]at h
 cases h
theorem wq{s:List In}(h0:0<s.length)(h:(bif (bif (bif bi (s.getD 0 default)then decide ((1:Int)<s.length)else false)then decide ((s.getD 1 default).op=4)else false)then decide ((s.getD 1 default).a=1)else false)=true):bi (s.getD 0 default)=true∧bf [(s.getD 0 default).op,4] s=true∧(s.getD 1 default).a=1:=by
 obtain⟨h,h5⟩:=mO h
 obtain⟨h,h4⟩:=kk h
 obtain⟨h,h3⟩:=kk h
 exact⟨h,by rw[vu h0,h3,h4];rfl,h5⟩
theorem rE{s:List In}(h0:0<s.length)(h:(bif (bif (bif bi (s.getD 0 default)then decide ((1:Int)<s.length)else false)then decide ((s.getD 1 default).op=4)else false)then decide ((s.getD 1 default).a=1)else false)=false): ¬(bi (s.getD 0 default)=true∧bf [(s.getD 0 default).op,4] s=true∧(s.getD 1 default).a=1):=by
 rintro⟨h1,h2,h3⟩
 rw[vu h0]at h2
 simp only[bD]at h2
 rw[h1,h2.1,h2.2,decide_eq_true h3]at h
 cases h
theorem vJ{s:List In}(h0:0<s.length)(hs: ∀x∈s,aE x=true):MQ h1 h2 100 [cn s] [] (Plain (wg (eM s))):=by
 refine MC.data (jB 181 h1 h2 Tryz.func100 Z fun O hF=>?_)
 have hl:s.length≤L:=by simpa[As.fact,A.fact,M.fact,D.fact,Ds.fact]using hF.1.1
 refine af (jx Z (aA ?_))
 refine bw (Ent.freeze 1 (e':=[(1,_),(0,_)]) Z (.cons Z (.c (.box (cs:=[c7 s]) Z (aV Z))) (fe [0] Z)) (.skip .nil)) ?_
 refine ag Z (bm (ag Z (jn (aa (aa (bu (F:=⟨[(21,eB (bif bf [0,4] s then fN ((s.getD 0 default).a*(s.getD 1 default).a)else false)),(1,ptr [c7 s]),(4,.c (.fn 119 [.d (.ptr [c7 s] 0)]))],[]⟩) ?_ ?_))))))
 cases hb2:bf [0,4] s with
 | true=>
  have hq:2≤s.length:=by have:=bG hb2;simpa using this
  have n0:=fj (i:=0) hs hb2 (by decide) (.inl Z)
  have n1:=fj (i:=1) hs hb2 (by decide) (.inr Z)
  have hmm:=mM n0 n1
  refine jV [_,_,_,_,_,_,_,_,_,_,_,_,_,_,_] [pn [] 0 1,pe [] 0,pe [0,1] 1,pn [0,1,2] 2 2,pn (rg 0 4) 2 2,pn (rg 0 5) 2 2,pn (rg 0 6) 2 2,pn (rg 0 7) 2 2,pn (rg 0 4) 2 2,pn [0,1,2,3,8] 2 2,pn [0,1,2,3,8,9] 2 2,pn [0,1,2,3,8,9,10] 2 2,pn (rg 0 12) 2 2,pe (rg 0 13) 2,pn (rg 0 14) 3 3] [1,2,13] [_,_,_,_] (ai (kc Z (V Z)) (ai (bq O Z Z Z Z Z Z Z Z Z Z Z Z Z) (ai (aG O (B0:=10000) Z Z Z Z ((jY (c:=s) (os:=[0,4]) h1 h2).plain (congrArg eB hb2)) (VAs.cons (.c (.whole Z Z)) (.cons (.c .d) .nil)) Z Z Z Z Z) (kc Z (kc Z (ai (ax O Z Z Z Z Z Z Z Z (bJ (n:=0) (by omega))) (kc Z (kc Z (kc Z (ai (ax O Z Z Z Z Z Z Z Z (bJ (n:=1) (by omega))) (kc Z (kc Z (ai (aL O Z Z (by first|omega|(have:=hmm;omega)) (by first|omega|(have:=hmm;omega))) (ai (aG O (B0:=21000) Z Z Z Z (p8 (x:=(s.getD 0 default).a*(s.getD 1 default).a) h1 h2) (ae Z) Z Z Z Z Z) (ai (aB O Z Z Z Z Z) trivial))))))))))))))) ?_
  exact⟨Z,aq (bs:=[]) [] Z Z ⟨Z,Z,Z,aj⟩ Z⟩
 | false=>
  refine jV [_,_,_,_,_,_,_,_,_,_,_,_,_,_,_] [pn [] 0 1,pe [] 0,pe [0,1] 1,pn [0,1,2] 2 2,pn (rg 0 4) 0 2,pn (rg 0 5) 0 2,pn (rg 0 6) 0 2,pn (rg 0 7) 0 2,pn (rg 0 4) 0 2,pn [0,1,2,3,8] 0 2,pn [0,1,2,3,8,9] 0 2,pn [0,1,2,3,8,9,10] 0 2,pn (rg 0 12) 0 2,pn (rg 0 13) 0 2,pn (rg 0 14) 2 2] [1,2] [_,_,_] (ai (kc Z (V Z)) (ai (bq O Z Z Z Z Z Z Z Z Z Z Z Z Z) (ai (aG O (B0:=10000) Z Z Z Z ((jY (c:=s) (os:=[0,4]) h1 h2).plain (congrArg eB hb2)) (VAs.cons (.c (.whole Z Z)) (.cons (.c .d) .nil)) Z Z Z Z Z) (kc Z (ai ⟨Z,Z⟩ (ai ⟨Z,Z⟩ (ai ⟨Z,Z⟩ (ai ⟨Z,Z⟩ (ai ⟨Z,Z⟩ (ai ⟨Z,Z⟩ (ai ⟨Z,Z⟩ (ai ⟨Z,Z⟩ (ai ⟨Z,Z⟩ (ai ⟨Z,Z⟩ (ai (ap O Z Z Z Z Z) trivial))))))))))))))) ?_
  exact⟨Z,aq (bs:=[]) [] Z Z ⟨Z,Z,Z,aj⟩ Z⟩
 refine ao Z (fun z21=>?_) (fun z21=>?_)
 refine aa ?_
 obtain⟨hb2,hnum2⟩:=qc z21
 have hq:2≤s.length:=by have:=bG hb2;simpa using this
 have n0:=fj (i:=0) hs hb2 (by decide) (.inl Z)
 have n1:=fj (i:=1) hs hb2 (by decide) (.inr Z)
 have hmm:=mM n0 n1
 refine gK [_,_,_,_,_,_,_,_,_,_,_,_,_] [aN,ar [0],ar [0,1],ar [0,1,2],aN,ar [4],ar [4,5],ar [4,5,6],ar (rg 0 8),ar (rg 0 9),pe (rg 0 10) 0,pn [] 0 1,pn (rg 0 12) 1 1] [10] [_,_] (kc Z (ai (ax O Z Z Z Z Z Z Z Z (bJ (n:=0) (by omega))) (kc Z (kc Z (kc Z (ai (ax O Z Z Z Z Z Z Z Z (bJ (n:=1) (by omega))) (kc Z (kc Z (ai (aL O Z Z (by first|omega|(have:=hmm;omega)) (by first|omega|(have:=hmm;omega))) (kc Z (ai (bq O Z Z Z Z Z Z Z Z Z Z Z Z Z) (ai (kc Z (V Z)) (kc Z trivial))))))))))))) ?_
 refine f9 ?_
 refine aD Z ?_
 rw[show eM s=bX (s.getD 0 default) (s.getD 1 default) (s.getD 2 default) (fun os=>bf os s)from Z]
 unfold bX
 rw[if_pos ⟨hb2,hnum2⟩]
 exact .tup (.cons (.c .d) (.cons (.c (.whole Z Z)) .nil))
 refine ac (aa (aa (bu (F:=⟨[(47,eB (bif bf [0,0,3] s then fN ((s.getD 0 default).a+(s.getD 1 default).a)else false)),(1,ptr [c7 s]),(4,.c (.fn 119 [.d (.ptr [c7 s] 0)]))],[]⟩) ?_ ?_)))
 cases hb4:bf [0,0,3] s with
 | true=>
  have hq:3≤s.length:=by have:=bG hb4;simpa using this
  have n0:=cv (hs _ (bW (i:=0) (by omega)))
  have n1:=cv (hs _ (bW (i:=1) (by omega)))
  refine jV [_,_,_,_,_,_,_,_,_,_,_,_,_,_,_] [pn [] 0 1,pe [] 0,pe [0,1] 1,pn [0,1,2] 2 2,pn (rg 0 4) 2 2,pn (rg 0 5) 2 2,pn (rg 0 6) 2 2,pn (rg 0 7) 2 2,pn (rg 0 4) 2 2,pn [0,1,2,3,8] 2 2,pn [0,1,2,3,8,9] 2 2,pn [0,1,2,3,8,9,10] 2 2,pn (rg 0 12) 2 2,pe (rg 0 13) 2,pn (rg 0 14) 3 3] [1,2,13] [_,_,_,_] (ai (kc Z (V Z)) (ai (bq O Z Z Z Z Z Z Z Z Z Z Z Z Z) (ai (aG O (B0:=36000) Z Z Z Z ((jY (c:=s) (os:=[0,0,3]) h1 h2).plain (congrArg eB hb4)) (VAs.cons (.c (.whole Z Z)) (.cons (.c .d) .nil)) Z Z Z Z Z) (kc Z (kc Z (ai (ax O Z Z Z Z Z Z Z Z (bJ (n:=0) (by omega))) (kc Z (kc Z (kc Z (ai (ax O Z Z Z Z Z Z Z Z (bJ (n:=1) (by omega))) (kc Z (kc Z (ai (aL O Z Z (by first|omega|(have:=hmm;omega)) (by first|omega|(have:=hmm;omega))) (ai (aG O (B0:=47000) Z Z Z Z (p8 (x:=(s.getD 0 default).a+(s.getD 1 default).a) h1 h2) (ae Z) Z Z Z Z Z) (ai (aB O Z Z Z Z Z) trivial))))))))))))))) ?_
  exact⟨Z,aq (bs:=[]) [] Z Z ⟨Z,Z,Z,aj⟩ Z⟩
 | false=>
  refine jV [_,_,_,_,_,_,_,_,_,_,_,_,_,_,_] [pn [] 0 1,pe [] 0,pe [0,1] 1,pn [0,1,2] 2 2,pn (rg 0 4) 0 2,pn (rg 0 5) 0 2,pn (rg 0 6) 0 2,pn (rg 0 7) 0 2,pn (rg 0 4) 0 2,pn [0,1,2,3,8] 0 2,pn [0,1,2,3,8,9] 0 2,pn [0,1,2,3,8,9,10] 0 2,pn (rg 0 12) 0 2,pn (rg 0 13) 0 2,pn (rg 0 14) 2 2] [1,2] [_,_,_] (ai (kc Z (V Z)) (ai (bq O Z Z Z Z Z Z Z Z Z Z Z Z Z) (ai (aG O (B0:=36000) Z Z Z Z ((jY (c:=s) (os:=[0,0,3]) h1 h2).plain (congrArg eB hb4)) (VAs.cons (.c (.whole Z Z)) (.cons (.c .d) .nil)) Z Z Z Z Z) (kc Z (ai ⟨Z,Z⟩ (ai ⟨Z,Z⟩ (ai ⟨Z,Z⟩ (ai ⟨Z,Z⟩ (ai ⟨Z,Z⟩ (ai ⟨Z,Z⟩ (ai ⟨Z,Z⟩ (ai ⟨Z,Z⟩ (ai ⟨Z,Z⟩ (ai ⟨Z,Z⟩ (ai (ap O Z Z Z Z Z) trivial))))))))))))))) ?_
  exact⟨Z,aq (bs:=[]) [] Z Z ⟨Z,Z,Z,aj⟩ Z⟩
 refine ao Z (fun z47=>?_) (fun z47=>?_)
 refine aa ?_
 obtain⟨hb4,hnum4⟩:=qc z47
 have hq:3≤s.length:=by have:=bG hb4;simpa using this
 have n0:=cv (hs _ (bW (i:=0) (by omega)))
 have n1:=cv (hs _ (bW (i:=1) (by omega)))
 refine gK [_,_,_,_,_,_,_,_,_,_,_,_,_] [aN,ar [0],ar [0,1],ar [0,1,2],aN,ar [4],ar [4,5],ar [4,5,6],ar (rg 0 8),ar (rg 0 9),pe (rg 0 10) 0,pn [] 0 1,pn (rg 0 12) 1 1] [10] [_,_] (kc Z (ai (ax O Z Z Z Z Z Z Z Z (bJ (n:=0) (by omega))) (kc Z (kc Z (kc Z (ai (ax O Z Z Z Z Z Z Z Z (bJ (n:=1) (by omega))) (kc Z (kc Z (ai (aL O Z Z (by first|omega|(have:=hmm;omega)) (by first|omega|(have:=hmm;omega))) (kc Z (ai (bq O Z Z Z Z Z Z Z Z Z Z Z Z Z) (ai (kc Z (V Z)) (kc Z trivial))))))))))))) ?_
 refine f9 ?_
 refine aD Z ?_
 rw[show eM s=bX (s.getD 0 default) (s.getD 1 default) (s.getD 2 default) (fun os=>bf os s)from Z]
 unfold bX
 rw[if_neg (dC z21),if_pos ⟨hb4,hnum4⟩]
 exact .tup (.cons (.c .d) (.cons (.c (.whole Z Z)) .nil))
 refine ac (aa (aa (bu (F:=⟨[(68,eB (bif bf [0,1,3] s then decide ((s.getD 0 default).a=0)else false)),(1,ptr [c7 s]),(4,.c (.fn 119 [.d (.ptr [c7 s] 0)]))],[]⟩) ?_ ?_)))
 refine ab (js Z (bc (ch O Z Z Z Z Z Z Z Z Z Z Z) Z (aA ?_)))
 refine aP O Z Z Z Z (jY (c:=s) (os:=[0,1,3]) h1 h2) (VAs.cons (.c (.whole Z Z)) (.cons (.c .d) .nil)) Z Z Z Z Z (B0:=62000) Z ?_
 cases hb62:bf [0,1,3] s with
 | true=>
  refine js Z (bh Z (js Z (bh Z (ak (ax O Z Z Z Z Z Z Z Z (bJ (n:=0) (by omega))) Z (bh Z (js Z (bh Z (js Z (bh Z (js Z (ak (aB O Z Z Z Z Z) Z (jn ?_))))))))))))
  exact⟨Z,aq (bs:=[]) [] Z Z ⟨Z,Z,Z,aj⟩ Z⟩
 | false=>
  refine js Z (ay Z (ay Z (ay Z (ay Z (ay Z (ak (ap O Z Z Z Z Z) Z (jn ?_)))))))
  exact⟨Z,aq (bs:=[]) [] Z Z ⟨Z,Z,Z,aj⟩ Z⟩
 refine ao Z (fun z68=>?_) (fun z68=>?_)
 refine aa ?_
 obtain⟨hb6,hz6⟩:=mO z68
 have hq:3≤s.length:=by have:=bG hb6;simpa using this
 refine gK [_,_,_,_,_,_] [aN,ar [0],ar [0,1],pe [0,1,2] 0,pn [] 0 1,pn (rg 0 5) 1 1] [3] [_,_] (kc Z (ai (ax O Z Z Z Z Z Z Z Z (bJ (n:=1) (by omega))) (kc Z (ai (bq O Z Z Z Z Z Z Z Z Z Z Z Z Z) (ai (kc Z (V Z)) (kc Z trivial)))))) ?_
 refine f9 ?_
 refine aD Z ?_
 rw[show eM s=bX (s.getD 0 default) (s.getD 1 default) (s.getD 2 default) (fun os=>bf os s)from Z]
 unfold bX
 rw[if_neg (dC z21),if_neg (dC z47),if_pos ⟨hb6,hz6⟩]
 exact .tup (.cons (.c .d) (.cons (.c (.whole Z Z)) .nil))
 refine ac (aa (aa (bu (F:=⟨[(82,eB (bif bf [0,1,4,3] s then decide ((s.getD 0 default).a=0)else false)),(1,ptr [c7 s]),(4,.c (.fn 119 [.d (.ptr [c7 s] 0)]))],[]⟩) ?_ ?_)))
 refine ab (js Z (bc (ch O Z Z Z Z Z Z Z Z Z Z Z) Z (aA ?_)))
 refine aP O Z Z Z Z (jY (c:=s) (os:=[0,1,4,3]) h1 h2) (VAs.cons (.c (.whole Z Z)) (.cons (.c .d) .nil)) Z Z Z Z Z (B0:=76000) Z ?_
 cases hb76:bf [0,1,4,3] s with
 | true=>
  refine js Z (bh Z (js Z (bh Z (ak (ax O Z Z Z Z Z Z Z Z (bJ (n:=0) (by omega))) Z (bh Z (js Z (bh Z (js Z (bh Z (js Z (ak (aB O Z Z Z Z Z) Z (jn ?_))))))))))))
  exact⟨Z,aq (bs:=[]) [] Z Z ⟨Z,Z,Z,aj⟩ Z⟩
 | false=>
  refine js Z (ay Z (ay Z (ay Z (ay Z (ay Z (ak (ap O Z Z Z Z Z) Z (jn ?_)))))))
  exact⟨Z,aq (bs:=[]) [] Z Z ⟨Z,Z,Z,aj⟩ Z⟩
 refine ao Z (fun z82=>?_) (fun z82=>?_)
 refine aa ?_
 obtain⟨hb8,hz8⟩:=mO z82
 have hq:4≤s.length:=by have:=bG hb8;simpa using this
 refine gK [_,_,_,_,_,_,_,_,_] [aN,ar [0],ar [0,1],aN,ar [3],ar [3,4],pe (rg 0 6) 0,pn [] 0 1,pn (rg 0 8) 1 1] [6] [_,_] (kc Z (ai (ax O Z Z Z Z Z Z Z Z (bJ (n:=1) (by omega))) (kc Z (kc Z (ai (ax O Z Z Z Z Z Z Z Z (bJ (n:=2) (by omega))) (kc Z (ai (bq O Z Z Z Z Z Z Z Z Z Z Z Z Z) (ai (kc Z (V Z)) (kc Z trivial))))))))) ?_
 refine f9 ?_
 refine aD Z ?_
 rw[show eM s=bX (s.getD 0 default) (s.getD 1 default) (s.getD 2 default) (fun os=>bf os s)from Z]
 unfold bX
 rw[if_neg (dC z21),if_neg (dC z47),if_neg (iz z68),if_pos ⟨hb8,hz8⟩]
 exact .tup (.cons (.c .d) (.cons (.c (.whole Z Z)) .nil))
 refine ac (aa (bu (F:=⟨[(5,eB (bif bif bf [1] s then true else bf [3] s then true else bf [7] s)),(1,ptr [c7 s]),(4,.c (.fn 119 [.d (.ptr [c7 s] 0)]))],[]⟩) ?_ ?_))
 refine ab (js Z (bc (ch O Z Z Z Z Z Z Z Z Z Z Z) Z (aA ?_)))
 refine aP O Z Z Z Z (jY (c:=s) (os:=[1]) h1 h2) (VAs.cons (.c (.whole Z Z)) (.cons (.c .d) .nil)) Z Z Z Z Z (B0:=93000) Z ?_
 cases hb93:bf [1] s with
 | true=>
  refine js Z (ay Z (ay Z (ay Z (ak (aB O Z Z Z Z Z) Z (js Z (ay Z (ay Z (ay Z (ak (aB O Z Z Z Z Z) Z (js Z (jn ?_)))))))))))
  exact⟨Z,aq (bs:=[]) [] Z Z ⟨Z,Z,Z,aj⟩ Z⟩
 | false=>
  refine js Z (bh Z (js Z (bh Z (bc (ch O Z Z Z Z Z Z Z Z Z Z Z) Z (aA ?_)))))
  refine bh Z (aP O Z Z Z Z (jY (c:=s) (os:=[3]) h1 h2) (VAs.cons (.c (.whole Z Z)) (.cons (.c .d) .nil)) Z Z Z Z Z (B0:=97000) Z (ak (ap O Z Z Z Z Z) Z ?_))
  cases hb98:bf [3] s with
  | true=>
   refine js Z (ay Z (ay Z (ay Z (ak (aB O Z Z Z Z Z) Z (js Z (jn ?_))))))
   exact⟨Z,aq (bs:=[]) [] Z Z ⟨Z,Z,Z,aj⟩ Z⟩
  | false=>
   refine js Z (bh Z (js Z (bh Z (bc (ch O Z Z Z Z Z Z Z Z Z Z Z) Z (aA ?_)))))
   refine bh Z (aP O Z Z Z Z (jY (c:=s) (os:=[7]) h1 h2) (VAs.cons (.c (.whole Z Z)) (.cons (.c .d) .nil)) Z Z Z Z Z (B0:=102000) Z (ak (ap O Z Z Z Z Z) Z (js Z (jn ?_))))
   exact⟨Z,aq (bs:=[]) [] Z Z ⟨Z,Z,Z,aj⟩ Z⟩
 refine aa (aa ?_)
 rw[qk h0]
 refine bu (F:=⟨[(126,eB (bif (bif (bif (bif bi (s.getD 0 default)then true else bf [4] s)then decide ((2:Int)<s.length)else false)then(decide ((s.getD 1 default).op=0)&&decide ((s.getD 1 default).a=0))else false)then decide ((s.getD 2 default).op=3)else false)),(5,eB (bi (s.getD 0 default))),(1,ptr [c7 s]),(4,.c (.fn 119 [.d (.ptr [c7 s] 0)]))],[]⟩) ?_ ?_
 refine ab (js Z ?_)
 cases hb104:bi (s.getD 0 default)with
 | true=>
  refine js Z (ay Z (ay Z (ay Z (ak (aB O Z Z Z Z Z) Z (js Z (bh Z (js Z (bh Z (ak ((bK O Z Z Z Z Z Z Z Z).cast (v':=eI s.length) (by simp)) Z (bh Z (js Z (ak (aB O Z Z Z Z Z) Z ?_))))))))))))
  cases hb114:decide ((2:Int)<s.length)with
  | true=>
   have hq2:2<s.length:=by have:=bZ hb114;omega
   refine js Z (bh Z (js Z (bh Z (ak (ax O Z Z Z Z Z Z Z Z (bJ (n:=1) (by omega))) Z (bh Z (js Z (bh Z (ba Z (vH (x:=(s.getD 1 default)) (n:=0) h1 h2) 119000 Z (ak (aB O Z Z Z Z Z) Z ?_)))))))))
   cases hb120:(decide ((s.getD 1 default).op=0)&&decide ((s.getD 1 default).a=0))with
   | true=>
    refine js Z (bh Z (js Z (bh Z (ak (ax O Z Z Z Z Z Z Z Z (bJ (n:=2) (by omega))) Z (bh Z (js Z (bh Z (js Z (bh Z (js Z (ak (aB O Z Z Z Z Z) Z (jn ?_))))))))))))
    exact⟨Z,aq (bs:=[]) [] Z Z ⟨Z,Z,Z,Z,aj⟩ Z⟩
   | false=>
    refine js Z (ay Z (ay Z (ay Z (ay Z (ay Z (ak (ap O Z Z Z Z Z) Z (jn ?_)))))))
    exact⟨Z,aq (bs:=[]) [] Z Z ⟨Z,Z,Z,Z,aj⟩ Z⟩
  | false=>
   refine js Z (ay Z (ay Z (ay Z (ay Z (ak (ap O Z Z Z Z Z) Z (js Z (ay Z (ay Z (ay Z (ay Z (ay Z (ak (ap O Z Z Z Z Z) Z (jn ?_)))))))))))))
   exact⟨Z,aq (bs:=[]) [] Z Z ⟨Z,Z,Z,Z,aj⟩ Z⟩
 | false=>
  refine js Z (bh Z (js Z (bh Z (bc (ch O Z Z Z Z Z Z Z Z Z Z Z) Z (aA ?_)))))
  refine bh Z (aP O Z Z Z Z (jY (c:=s) (os:=[4]) h1 h2) (VAs.cons (.c (.whole Z Z)) (.cons (.c .d) .nil)) Z Z Z Z Z (B0:=108000) Z (ak (ap O Z Z Z Z Z) Z ?_))
  cases hb109:bf [4] s with
  | true=>
   refine js Z (bh Z (js Z (bh Z (ak ((bK O Z Z Z Z Z Z Z Z).cast (v':=eI s.length) (by simp)) Z (bh Z (js Z (ak (aB O Z Z Z Z Z) Z ?_)))))))
   cases hb114:decide ((2:Int)<s.length)with
   | true=>
    have hq2:2<s.length:=by have:=bZ hb114;omega
    refine js Z (bh Z (js Z (bh Z (ak (ax O Z Z Z Z Z Z Z Z (bJ (n:=1) (by omega))) Z (bh Z (js Z (bh Z (ba Z (vH (x:=(s.getD 1 default)) (n:=0) h1 h2) 119000 Z (ak (aB O Z Z Z Z Z) Z ?_)))))))))
    cases hb120:(decide ((s.getD 1 default).op=0)&&decide ((s.getD 1 default).a=0))with
    | true=>
     refine js Z (bh Z (js Z (bh Z (ak (ax O Z Z Z Z Z Z Z Z (bJ (n:=2) (by omega))) Z (bh Z (js Z (bh Z (js Z (bh Z (js Z (ak (aB O Z Z Z Z Z) Z (jn ?_))))))))))))
     exact⟨Z,aq (bs:=[]) [] Z Z ⟨Z,Z,Z,Z,aj⟩ Z⟩
    | false=>
     refine js Z (ay Z (ay Z (ay Z (ay Z (ay Z (ak (ap O Z Z Z Z Z) Z (jn ?_)))))))
     exact⟨Z,aq (bs:=[]) [] Z Z ⟨Z,Z,Z,Z,aj⟩ Z⟩
   | false=>
    refine js Z (ay Z (ay Z (ay Z (ay Z (ak (ap O Z Z Z Z Z) Z (js Z (ay Z (ay Z (ay Z (ay Z (ay Z (ak (ap O Z Z Z Z Z) Z (jn ?_)))))))))))))
    exact⟨Z,aq (bs:=[]) [] Z Z ⟨Z,Z,Z,Z,aj⟩ Z⟩
  | false=>
   refine js Z (ay Z (ay Z (ay Z (ak (ap O Z Z Z Z Z) Z (js Z (ay Z (ay Z (ay Z (ay Z (ak (ap O Z Z Z Z Z) Z (js Z (ay Z (ay Z (ay Z (ay Z (ay Z (ak (ap O Z Z Z Z Z) Z (jn ?_))))))))))))))))))
   exact⟨Z,aq (bs:=[]) [] Z Z ⟨Z,Z,Z,Z,aj⟩ Z⟩
 refine ao Z (fun z126=>?_) (fun z126=>?_)
 refine aa ?_
 obtain⟨hq,hb11⟩:=wt h0 z126
 refine gK [_,_,_,_,_,_] [aN,ar [0],ar [0,1],pe [0,1,2] 0,pn [] 0 1,pn (rg 0 5) 1 1] [3] [_,_] (kc Z (ai (ax O Z Z Z Z Z Z Z Z (bJ (n:=0) (by omega))) (kc Z (ai (bq O Z Z Z Z Z Z Z Z Z Z Z Z Z) (ai (kc Z (V Z)) (kc Z trivial)))))) ?_
 refine f9 ?_
 refine aD Z ?_
 rw[show eM s=bX (s.getD 0 default) (s.getD 1 default) (s.getD 2 default) (fun os=>bf os s)from Z]
 unfold bX
 rw[if_neg (dC z21),if_neg (dC z47),if_neg (iz z68),if_neg (iz z82),if_pos hb11]
 exact .tup (.cons (.c .d) (.cons (.c (.whole Z Z)) .nil))
 refine ac (aa (aa (bu (F:=⟨[(150,eB (bif (bif (bif bi (s.getD 0 default)then decide ((1:Int)<s.length)else false)then decide ((s.getD 1 default).op=4)else false)then decide ((s.getD 1 default).a=1)else false)),(5,eB (bi (s.getD 0 default))),(1,ptr [c7 s]),(4,.c (.fn 119 [.d (.ptr [c7 s] 0)]))],[]⟩) ?_ ?_)))
 refine ab (js Z ?_)
 cases hb132:bi (s.getD 0 default)with
 | true=>
  refine js Z (bh Z (js Z (bh Z (ak ((bK O Z Z Z Z Z Z Z Z).cast (v':=eI s.length) (by simp)) Z (bh Z (js Z (ak (aB O Z Z Z Z Z) Z ?_)))))))
  cases hb137:decide ((1:Int)<s.length)with
  | true=>
   have hq1:1<s.length:=by have:=bZ hb137;omega
   refine js Z (bh Z (js Z (bh Z (ak (ax O Z Z Z Z Z Z Z Z (bJ (n:=1) (by omega))) Z (bh Z (js Z (bh Z (js Z (bh Z (js Z (ak (aB O Z Z Z Z Z) Z ?_)))))))))))
   cases hb144:decide ((s.getD 1 default).op=4)with
   | true=>
    refine js Z (bh Z (js Z (bh Z (ak (ax O Z Z Z Z Z Z Z Z (bJ (n:=1) (by omega))) Z (bh Z (js Z (bh Z (js Z (bh Z (js Z (ak (aB O Z Z Z Z Z) Z (jn ?_))))))))))))
    exact⟨Z,aq (bs:=[]) [] Z Z ⟨Z,Z,Z,Z,aj⟩ Z⟩
   | false=>
    refine js Z (ay Z (ay Z (ay Z (ay Z (ay Z (ak (ap O Z Z Z Z Z) Z (jn ?_)))))))
    exact⟨Z,aq (bs:=[]) [] Z Z ⟨Z,Z,Z,Z,aj⟩ Z⟩
  | false=>
   refine js Z (ay Z (ay Z (ay Z (ay Z (ay Z (ak (ap O Z Z Z Z Z) Z (js Z (ay Z (ay Z (ay Z (ay Z (ay Z (ak (ap O Z Z Z Z Z) Z (jn ?_))))))))))))))
   exact⟨Z,aq (bs:=[]) [] Z Z ⟨Z,Z,Z,Z,aj⟩ Z⟩
 | false=>
  refine js Z (ay Z (ay Z (ay Z (ak (ap O Z Z Z Z Z) Z (js Z (ay Z (ay Z (ay Z (ay Z (ay Z (ak (ap O Z Z Z Z Z) Z (js Z (ay Z (ay Z (ay Z (ay Z (ay Z (ak (ap O Z Z Z Z Z) Z (jn ?_)))))))))))))))))))
  exact⟨Z,aq (bs:=[]) [] Z Z ⟨Z,Z,Z,Z,aj⟩ Z⟩
 refine ao Z (fun z150=>?_) (fun z150=>?_)
 refine aa ?_
 have hb13:=wq h0 z150
 refine gK [_,_,_,_,_,_] [aN,ar [0],ar [0,1],pe [0,1,2] 0,pn [] 0 1,pn (rg 0 5) 1 1] [3] [_,_] (kc Z (ai (ax O Z Z Z Z Z Z Z Z (bJ (n:=0) (by omega))) (kc Z (ai (bq O Z Z Z Z Z Z Z Z Z Z Z Z Z) (ai (kc Z (V Z)) (kc Z trivial)))))) ?_
 refine f9 ?_
 refine aD Z ?_
 rw[show eM s=bX (s.getD 0 default) (s.getD 1 default) (s.getD 2 default) (fun os=>bf os s)from Z]
 unfold bX
 rw[if_neg (dC z21),if_neg (dC z47),if_neg (iz z68),if_neg (iz z82),if_neg (ol h0 z126),if_pos hb13]
 exact .tup (.cons (.c .d) (.cons (.c (.whole Z Z)) .nil))
 refine ac (aa (aa (bu (F:=⟨[(169,eB (bif bf [4,4] s then fN ((s.getD 0 default).a*(s.getD 1 default).a)else false)),(1,ptr [c7 s]),(4,.c (.fn 119 [.d (.ptr [c7 s] 0)]))],[]⟩) ?_ ?_)))
 cases hb15:bf [4,4] s with
 | true=>
  have hq:2≤s.length:=by have:=bG hb15;simpa using this
  have n0:=fj (i:=0) hs hb15 (by decide) (.inr Z)
  have n1:=fj (i:=1) hs hb15 (by decide) (.inr Z)
  have hmm:=mM n0 n1
  refine jV [_,_,_,_,_,_,_,_,_,_,_,_,_,_,_] [pn [] 0 1,pe [] 0,pe [0,1] 1,pn [0,1,2] 2 2,pn (rg 0 4) 2 2,pn (rg 0 5) 2 2,pn (rg 0 6) 2 2,pn (rg 0 7) 2 2,pn (rg 0 4) 2 2,pn [0,1,2,3,8] 2 2,pn [0,1,2,3,8,9] 2 2,pn [0,1,2,3,8,9,10] 2 2,pn (rg 0 12) 2 2,pe (rg 0 13) 2,pn (rg 0 14) 3 3] [1,2,13] [_,_,_,_] (ai (kc Z (V Z)) (ai (bq O Z Z Z Z Z Z Z Z Z Z Z Z Z) (ai (aG O (B0:=158000) Z Z Z Z ((jY (c:=s) (os:=[4,4]) h1 h2).plain (congrArg eB hb15)) (VAs.cons (.c (.whole Z Z)) (.cons (.c .d) .nil)) Z Z Z Z Z) (kc Z (kc Z (ai (ax O Z Z Z Z Z Z Z Z (bJ (n:=0) (by omega))) (kc Z (kc Z (kc Z (ai (ax O Z Z Z Z Z Z Z Z (bJ (n:=1) (by omega))) (kc Z (kc Z (ai (aL O Z Z (by first|omega|(have:=hmm;omega)) (by first|omega|(have:=hmm;omega))) (ai (aG O (B0:=169000) Z Z Z Z (p8 (x:=(s.getD 0 default).a*(s.getD 1 default).a) h1 h2) (ae Z) Z Z Z Z Z) (ai (aB O Z Z Z Z Z) trivial))))))))))))))) ?_
  exact⟨Z,aq (bs:=[]) [] Z Z ⟨Z,Z,Z,aj⟩ Z⟩
 | false=>
  refine jV [_,_,_,_,_,_,_,_,_,_,_,_,_,_,_] [pn [] 0 1,pe [] 0,pe [0,1] 1,pn [0,1,2] 2 2,pn (rg 0 4) 0 2,pn (rg 0 5) 0 2,pn (rg 0 6) 0 2,pn (rg 0 7) 0 2,pn (rg 0 4) 0 2,pn [0,1,2,3,8] 0 2,pn [0,1,2,3,8,9] 0 2,pn [0,1,2,3,8,9,10] 0 2,pn (rg 0 12) 0 2,pn (rg 0 13) 0 2,pn (rg 0 14) 2 2] [1,2] [_,_,_] (ai (kc Z (V Z)) (ai (bq O Z Z Z Z Z Z Z Z Z Z Z Z Z) (ai (aG O (B0:=158000) Z Z Z Z ((jY (c:=s) (os:=[4,4]) h1 h2).plain (congrArg eB hb15)) (VAs.cons (.c (.whole Z Z)) (.cons (.c .d) .nil)) Z Z Z Z Z) (kc Z (ai ⟨Z,Z⟩ (ai ⟨Z,Z⟩ (ai ⟨Z,Z⟩ (ai ⟨Z,Z⟩ (ai ⟨Z,Z⟩ (ai ⟨Z,Z⟩ (ai ⟨Z,Z⟩ (ai ⟨Z,Z⟩ (ai ⟨Z,Z⟩ (ai ⟨Z,Z⟩ (ai (ap O Z Z Z Z Z) trivial))))))))))))))) ?_
  exact⟨Z,aq (bs:=[]) [] Z Z ⟨Z,Z,Z,aj⟩ Z⟩
 refine ao Z (fun z169=>?_) (fun z169=>?_)
 refine aa ?_
 obtain⟨hb15,hnum15⟩:=qc z169
 have hq:2≤s.length:=by have:=bG hb15;simpa using this
 have n0:=fj (i:=0) hs hb15 (by decide) (.inr Z)
 have n1:=fj (i:=1) hs hb15 (by decide) (.inr Z)
 have hmm:=mM n0 n1
 refine gK [_,_,_,_,_,_,_,_,_,_,_,_,_] [aN,ar [0],ar [0,1],ar [0,1,2],aN,ar [4],ar [4,5],ar [4,5,6],ar (rg 0 8),ar (rg 0 9),pe (rg 0 10) 0,pn [] 0 1,pn (rg 0 12) 1 1] [10] [_,_] (kc Z (ai (ax O Z Z Z Z Z Z Z Z (bJ (n:=0) (by omega))) (kc Z (kc Z (kc Z (ai (ax O Z Z Z Z Z Z Z Z (bJ (n:=1) (by omega))) (kc Z (kc Z (ai (aL O Z Z (by first|omega|(have:=hmm;omega)) (by first|omega|(have:=hmm;omega))) (kc Z (ai (bq O Z Z Z Z Z Z Z Z Z Z Z Z Z) (ai (kc Z (V Z)) (kc Z trivial))))))))))))) ?_
 refine f9 ?_
 refine aD Z ?_
 rw[show eM s=bX (s.getD 0 default) (s.getD 1 default) (s.getD 2 default) (fun os=>bf os s)from Z]
 unfold bX
 rw[if_neg (dC z21),if_neg (dC z47),if_neg (iz z68),if_neg (iz z82),if_neg (ol h0 z126),if_neg (rE h0 z150),if_pos ⟨hb15,hnum15⟩]
 exact .tup (.cons (.c .d) (.cons (.c (.whole Z Z)) .nil))
 refine ac (af (ag Z (jr ?_)))
 refine aD Z ?_
 rw[show eM s=bX (s.getD 0 default) (s.getD 1 default) (s.getD 2 default) (fun os=>bf os s)from Z]
 unfold bX
 rw[if_neg (dC z21),if_neg (dC z47),if_neg (iz z68),if_neg (iz z82),if_neg (ol h0 z126),if_neg (rE h0 z150),if_neg (dC z169)]
 exact .tup (.cons (.c .d) (.cons (.c .nils) .nil))
theorem wL{r:List In}(hl:(x::r).length≤1000):MQ h1 h2 53 [cn (x::r)] [] (Rows (.c (.rs 0 0 (x::r).length)) [cQ (x::r)]):=by
 refine bd (jB 8 h1 h2 Tryz.func53 Z fun O hF=>?_)
 refine af (js Z (jn (aa (af (ag Z (jn (ao Z (fun z4=>?_) (fun z4=>?_))))))))
 exact lW z4
 refine ac (af (bc (HS.lit O Z Z Z) Z (js Z (jf [6,5,3,2,0] Z (bc (lq (own:=true) (zs:=(x::r).map In.cells) (n:=(x::r).length) O Z (.row Z Z) (.slc (.inr cR)) (by simp) Z (by simp at hl ⊢;omega) (by simp at hl ⊢;omega) Z (by simp)) Z (js Z (jf [2,3,0] Z (jr ?_))))))))
 refine⟨.inl Z,_,bt,_,Z,[7],by decide,Z,Z,Z⟩
theorem vK{L:Nat}(h1:4096≤L)(h2:L≤1073741824){c:List In}(h0:0<c.length)(hl:c.length≤1000):MC Tryz.prog L 53 [cn c] [] (Rows (.c (.rs 0 0 c.length)) [cQ c]):=by
 cases c with
 | nil=>cases h0
 | cons x r=>exact wL h1 h2 hl
theorem vj(h0:0<a.code.length)(h80:a.code.length≤1000):MQ h1 h2 20 [aAn a] [] (Rows (gM a) (jd a)):=by
 refine bd (jB 36 h1 h2 Tryz.func20 Z fun O hF=>?_)
 have hl:a.code.length≤L:=by simpa[As.fact,A.fact,M.fact,Ms.fact,D.fact,Ds.fact]using hF.1.2.2.1.1
 have hlp:a.pts.length≤L:=by simpa[As.fact,A.fact,M.fact,Ms.fact,D.fact,Ds.fact]using hF.1.2.2.2.1.1
 refine af (jx Z (aA ?_))
 refine bw (Ent.freeze 1 (e':=[(1,_),(0,_)]) Z (.cons Z (.c (.box (cs:=a.data) Z (aV Z))) (fe [0] Z)) (.skip .nil)) ?_
 refine aA ?_
 refine jf [1] Z (jl Z (aA ?_))
 refine jn (aa (yL [_,_,_,_,_,_,_,_,_,_,_,_] [aN,ar [0],pe [0,1] 0,pn [] 0 1,pn [3] 0 1,pe [0,1,2,3,4] 1,pn [] 0 2,pn [6] 0 2,pe [0,1,2,3,4,5,6,7] 2,pn [0,1,2,3,4,5,6,7,8] 3 3,pn [] 0 3,pe [0,1,2,3,4,5,6,7,8,9,10] 3] [2,5,8,11] 10 3 (.box [.d .nils,.d .nils,.d .nils,.d .nils]) [_,_,_,_] [_] [[],[],[],[]] (kf Z Z Z (kf Z Z Z (ai (ai (aO (bF (bM O (B0:=9000) Z Z Z Z (li (ts:=a.pre) h1 h2) (ae Z) Z Z Z Z Z)) (bF (bM O (B0:=9000) Z Z Z Z (li (ts:=a.pre) h1 h2) (ae Z) Z Z Z Z Z))) Z) (ai (kf Z Z Z (kg Z Z Z)) (ai (kf Z Z Z (kg Z Z Z)) (ai (ai (aO (bF (bM O (B0:=12000) Z Z Z Z (li (ts:=a.post) h1 h2) (ae Z) Z Z Z Z Z)) (bF (bM O (B0:=12000) Z Z Z Z (li (ts:=a.post) h1 h2) (ae Z) Z Z Z Z Z))) Z) (ai (kf Z Z Z (kf Z Z Z (kg Z Z Z))) (ai (kf Z Z Z (kf Z Z Z (kg Z Z Z))) (ai (ai (aO (bF (bM O (B0:=15000) Z Z Z Z (vK (c:=a.code) h1 h2 h0 h80) (ae Z) Z Z Z Z Z)) (bF (bM O (B0:=15000) Z Z Z Z (vK (c:=a.code) h1 h2 h0 h80) (ae Z) Z Z Z Z Z))) Z) (kf Z Z Z (ai (ai (ai (bF (Eff.alloc O Z Z Z Z Z Z)) Z) (ai (ai (bF (Eff.alloc O Z Z Z Z Z Z)) Z) (ai (ai (bF (Eff.alloc O Z Z Z Z Z Z)) Z) (ai (bF (Eff.alloc O Z Z Z Z Z Z)) Z)))) (ai (ai (aO trivial (bF (eS Z Z Z))) Z) trivial)))))))))))) ?_))
 refine jw [3,2,1] Z (ld ?_)
 refine aa (af (ag Z ?_))
 first|refine bP Z ?_|refine js Z ?_|refine aR Z Z ?_
 refine js Z (jn (ah (al (X:=Nat) (fun i=>⟨[(2,.c (.pt 2 0 0)),(3,.c (.pt 3 0 0)),(17,lY a.pts),(18,eI a.pts.length),(19,eI i)],[(2,.box [.d .nils,.d .nils,.d .nils,.d .nils]),(3,.box [.rs 9000 0 a.pre.length,.rs 12000 0 a.post.length,.rs 15000 0 a.code.length,.rs 901 0 i]),(901,cK (a.pts.take i)),(9000,bA a.pre),(12000,bA a.post),(15000,cQ a.code)]⟩) (fun i=>i≤a.pts.length) (fun i=>a.pts.length-i) 0 ((ea 3 901 2 true 3 Z Z Z).trans (Ent.to ⟨Z,Z,Z,Z,Z,aj⟩ Z)) ?_ (fun i hi=>?_))))
 exact co _
 refine af (js Z (jn (aa (ao Z (fun z20=>?_) (fun z20=>?_)))))
 try simp only[aS]at z20
 refine ac (aa (ah (af ?_)))
 first|refine fO Z Z ?_|refine er Z Z ?_|refine aR Z Z ?_
 refine js Z (jf [22,20,2,3,17,18,19] Z (jl Z (aA ?_)))
 refine jo Z (aA ?_)
 refine jn (u6 [_,_,_,_,_,_,_,_,_,_,_,_] [pn [] 0 2,pn [0] 0 2,pn [] 0 1,pn [2] 0 1,aN,ar [4],pe [4,5] 0,pn (rg 2 5) 1 1,pe (rg 2 6) 1,pe (rg 0 9) 2,pn (rg 0 10) 3 3,pe (rg 0 11) 3] [6,8,9,11] [_,_,_,_,_] [[],[30000],[901,31],[]] (ai (ka Z Z (ka Z Z (kw Z Z))) (ai (ka Z Z (ka Z Z (kw Z Z))) (ai (ka Z Z (kw Z Z)) (ai (ka Z Z (kw Z Z)) (ka Z Z (ka Z Z (ai (ai (bF (bM O (B0:=30000) Z Z Z Z (li (ts:=(a.pts.getD i default).fs) h1 h2) (ae Z) Z Z Z Z Z)) Z) (ka Z Z (ai (ai (ir (l:=30000) (ds:=(a.pts.getD i default).cells) O Z Z Z Z Z Z Z Z Z Z Z Z (fun e=>.d Z (.rs Z (aQ _).symm .nil)) Z Z) Z) (ai (ai (gt (xs:=(a.pts.take i).map Pt.cells) (ys:=[(a.pts.getD i default).cells]) (zs:=(a.pts.take (i+1)).map Pt.cells) (n:=i+1) O Z Z Z Z Z Z Z Z Z Z Z Z Z Z Z Z (.row Z (by simp;omega)) Z Z (by decide) Z (by simp;omega) (by simp;omega) (by rw[List.take_succ_eq_append_getElem (show i<a.pts.length by omega),au (show i<a.pts.length by omega),List.map_append];rfl) (by simp;omega) Z) Z) (ka Z Z (ai (ai (bF (eS Z Z Z)) Z) trivial)))))))))))) ?_)
 refine jw [5,22,20,2,3,17,18,19] Z (ld ?_)
 refine ab ?_
 first|refine ji Z ?_|refine aR Z Z ?_
 refine js Z (jn ?_)
 refine⟨i+1,((aq [2,3,32,9000,12000,15000] (e':=[(2,_),(3,_),(17,_),(18,_),(19,_)]) Z Z ⟨Z,Z,Z,Z,Z,aj⟩ Z).trans (am 32 901 Z Z)),by omega,by omega⟩
 try simp only[aS]at z20
 refine aM (af (js Z (jo Z (aA ?_))))
 refine jr ?_
 obtain rfl:i=a.pts.length:=by omega
 rw[List.take_length]
 refine⟨.inl Z,_,bt,_,Z,[9000,12000,15000,901],by decide,Z,Z,Z⟩
theorem rW{α:Type}{l:List α}{n:Nat}:l.take (min n l.length)=l.take n:=by
 rcases Nat.le_total n l.length with h|h
 rw[Nat.min_eq_left h]
 rw[Nat.min_eq_right h,List.take_length,List.take_of_length_le h]
variable{d:List Bool}
theorem vG{z:Int}(h0:0≤z)(hd:d.length≤1000):MQ h1 h2 98 [eI z,ptr [gZ d]] [] (Plain (eI (dk d z.toNat))):=by
 refine av ?_ Z
 refine jB 24 h1 h2 Tryz.func98 Z fun O hF=>?_
 have hm:min z.toNat d.length≤d.length:=Nat.min_le_right _ _
 refine af (js Z (bm (js Z (jn (aa (aa (gK [_,_,_,_,_,_,_,_,_] [pn [] 0 1,pn [] 0 1,aN,ar [2],pe [2,3] 0,pn (rg 1 4) 1 1,pn (rg 0 6) 1 1,pn (rg 0 7) 1 1,pn [] 0 1] [4] [_,_] (ai (kc Z (V Z)) (ai (kc Z (V Z)) (kc Z (ai (bK O Z Z Z Z Z Z Z Z) (ai (aG O (B0:=12000) Z Z Z Z (ur (n:=d.length) h1 h2) (ae Z) Z Z Z Z Z) (ai ((V Z).cast (v':=eI ((min z.toNat d.length:Nat):Int)) (congrArg eI (by show(if(d.length:Int)<z then(d.length:Int)else z)=_;split<;>omega))) (ai (eW (sz:=1) (xs:=d.map bL) (a:=0) (b:=min z.toNat d.length) (ys:=(d.take z.toNat).map bL) O Z Z Z Z Z Z Z Z Z Z km ⟨co _,by rw[aQ];exact hm⟩ (by rw[List.drop_zero,Nat.sub_zero,←List.map_take,rW])) (ai (bK O Z Z Z Z Z Z Z Z) (ai (kc Z (V Z)) trivial))))))))) ?_)))))))
 refine jw [15,14,13,4,3] Z (ld ?_)
 refine ah ?_
 obtain⟨e,he⟩: ∃e,e=d.take z.toNat:=⟨_,rfl⟩
 rw[←he]
 have hel:e.length≤1000:=by rw[he,List.length_take];omega
 refine al (X:=Nat) (fun i=>⟨[(4,eI (dk e i)),(13,.c (.d (gZ e))),(14,eI e.length),(15,eI i)],[]⟩) (fun i=>i≤e.length) (fun i=>e.length-i) 0 (Ent.env ⟨Z,Z,Z,Z,aj⟩) ?_ (fun i hi=>?_)
 exact co _
 refine af (js Z (jn (aa (ao Z (fun z16=>?_) (fun z16=>?_)))))
 refine ac (aa (ah (af ?_)))
 have hil:i<e.length:=by have:=bZ z16;omega
 have hci:=tG (d:=e) (i:=i)
 refine fO Z Z (ag Z (jf [6,16,4,13,14,15] Z (bm (js Z (jn (ao Z (fun z19=>?_) (fun z19=>?_)))))))
 refine ab (js Z (ak ((vF Z).cast (v':=eI ((dk e (i+1):Nat):Int)) (congrArg eI (by rw[lP hil,if_pos z19];omega))) Z (js Z (jf [4,19,6,16,13,14,15] Z (jn (ab ?_))))))
 first|refine ji Z ?_|refine aR Z Z ?_
 refine js Z (jn ?_)
 exact⟨i+1,Ent.env ⟨Z,Z,Z,Z,aj⟩,by omega,by omega⟩
 refine ac (ab ?_)
 first|refine ji Z ?_|refine aR Z Z ?_
 refine js Z (jn ?_)
 have hs9:dk e (i+1)=dk e i:=by rw[lP hil,if_neg (by rw[z19];decide)];rfl
 rw[←hs9]
 exact⟨i+1,Ent.env ⟨Z,Z,Z,Z,aj⟩,by omega,by omega⟩
 refine aM (af (ag Z (jr ?_)))
 refine aD Z ?_
 obtain rfl:i=e.length:=by have:=cS z16;omega
 rw[show dk e e.length=dk d z.toNat by rw[dk,List.take_length,he]]
theorem pJ{d:List Bool}{x:In}(h:bI x=true):bC d x=⟨x.op,x.a-dk d x.a.toNat⟩:=if_pos h
theorem pI{d:List Bool}{x:In}(h:bI x=false):bC d x=x:=if_neg (by rw[h];decide)
structure WkOk(a:An)(d:List Bool):Prop where
  len:d.length=a.code.length
  c80:a.code.length≤80
  jmp: ∀x∈a.code,-1000000≤x.a∧x.a≤1000000∧(bI x=true→0≤x.a)
  pts: ∀p∈a.pts,0≤p.k∧p.k≤79
theorem ut(hw:WkOk a d):MQ h1 h2 61 [aAn a,.c (.d (gZ d))] [] (Rows (gM (aY d a)) (jd (aY d a))):=by
 refine bd (jB 73 h1 h2 Tryz.func61 Z fun O hF=>?_)
 have hl:a.code.length≤L:=by simpa[As.fact,A.fact,M.fact,Ms.fact,D.fact,Ds.fact]using hF.1.2.2.1.1
 have hlp:a.pts.length≤L:=by simpa[As.fact,A.fact,M.fact,Ms.fact,D.fact,Ds.fact]using hF.1.2.2.2.1.1
 have hd80:d.length≤80:=hw.len ▸ hw.c80
 refine af (jx Z (aA ?_))
 refine bw (Ent.freeze 2 (e':=[(2,_),(1,_)]) Z (.cons Z (.c (.box (cs:=a.data) Z (aV Z))) (fe [1] Z)) (.skip .nil)) ?_
 refine aA ?_
 refine jx Z (aA ?_)
 refine bw (Ent.freeze 3 (e':=[(3,_),(2,_)]) Z (.cons Z (.c (.box (cs:=[gZ d]) Z (aV Z))) (fe [2] Z)) (.skip .nil)) ?_
 refine aA ?_
 refine jl Z (aA ?_)
 refine jn (aa (yL [_,_,_,_,_,_,_,_,_] [aN,ar [0],pe [0,1] 0,pn [] 0 1,pn [3] 0 1,pe [0,1,2,3,4] 1,pn [0,1,2,3,4,5] 2 2,pn [] 0 2,pe [0,1,2,3,4,5,6,7] 2] [2,5,8] 7 5 (.box [.d .nils,.d .nils,.d .nils,.d .nils]) [_,_,_] [_] [[],[],[]] (kf Z Z Z (kf Z Z Z (ai (ai (aO (bF (bM O (B0:=14000) Z Z Z Z (li (ts:=a.pre) h1 h2) (ae Z) Z Z Z Z Z)) (bF (bM O (B0:=14000) Z Z Z Z (li (ts:=a.pre) h1 h2) (ae Z) Z Z Z Z Z))) Z) (ai (kf Z Z Z (kg Z Z Z)) (ai (kf Z Z Z (kg Z Z Z)) (ai (ai (aO (bF (bM O (B0:=17000) Z Z Z Z (li (ts:=a.post) h1 h2) (ae Z) Z Z Z Z Z)) (bF (bM O (B0:=17000) Z Z Z Z (li (ts:=a.post) h1 h2) (ae Z) Z Z Z Z Z))) Z) (kf Z Z Z (ai (ai (ai (bF (Eff.alloc O Z Z Z Z Z Z)) Z) (ai (ai (bF (Eff.alloc O Z Z Z Z Z Z)) Z) (ai (bF (Eff.alloc O Z Z Z Z Z Z)) Z))) (ai (ai (aO trivial (bF (eS Z Z Z))) Z) trivial))))))))) ?_))
 refine jw [5,4,3,2] Z (ld ?_)
 refine af (ag Z (jn (aa (af (ag Z ?_)))))
 first|refine bP Z ?_|refine js Z ?_|refine aR Z Z ?_
 refine js Z (jn (ah (al (X:=Nat) (fun i=>⟨[(2,ptr a.data),(3,ptr [gZ d]),(4,.c (.pt 4 0 0)),(5,.c (.pt 5 0 0)),(6,.c (.fn 98 [.d (.ptr [gZ d] 0)])),(20,cn a.code),(21,eI a.code.length),(22,eI i)],[(4,.box [.d .nils,.d .nils,.d .nils,.d .nils]),(5,.box [.rs 14000 0 a.pre.length,.rs 17000 0 a.post.length,.rs 900 0 ((be (d.take i) (a.code.take i)).map (bC d)).length,.d .nils]),(900,cQ ((be (d.take i) (a.code.take i)).map (bC d))),(14000,bA a.pre),(17000,bA a.post)]⟩) (fun i=>i≤a.code.length) (fun i=>a.code.length-i) 0 ((ea 5 900 2 true 2 Z Z Z).trans (Ent.to ⟨Z,Z,Z,Z,Z,Z,Z,Z,aj⟩ Z)) ?_ (fun i hi=>?_))))
 exact co _
 refine af (js Z (jn (aa (ao Z (fun z23=>?_) (fun z23=>?_)))))
 refine ac (aa (ah (af (js Z ?_))))
 have hil:i<a.code.length:=by have:=bZ z23;omega
 have hid:i<d.length:=by rw[hw.len];exact hil
 have hxi:=hw.jmp _ (bW hil)
 refine fO Z Z (js Z (jf [26,24,23,2,3,4,5,6,20,21,22] Z (jl Z (aA ?_))))
 refine js Z (jf [7,8,26,23,2,3,4,5,6,20,21,22] Z (jo Z (aA ?_)))
 refine jn (aa (af (ag Z (fO Z Z (js Z (jf [30,8,26,23,2,3,4,5,6,20,21,22] Z (jn (ao Z (fun z30=>?_) (fun z30=>?_)))))))))
 refine aM (ab ?_)
 first|refine ji Z ?_|refine aR Z Z ?_
 refine js Z (jn ?_)
 have hK0:((be (d.take (i+1)) (a.code.take (i+1))).map (bC d))=((be (d.take i) (a.code.take i)).map (bC d)):=by rw[ii hid hil,if_pos z30,List.append_nil]
 rw[←hK0]
 refine⟨i+1,(aq [4,5,900,14000,17000] (e':=[(2,_),(3,_),(4,_),(5,_),(6,_),(20,_),(21,_),(22,_)]) Z Z ⟨Z,Z,Z,Z,Z,Z,Z,Z,aj⟩ Z).trans (Ent.to ⟨Z,Z,Z,Z,Z,Z,Z,Z,aj⟩ Z),by omega,by omega⟩
 refine ac (aa (af (js Z (ba Z (uu (x:=(a.code.getD i default)) h1 h2) 33000 Z (jn (ao Z (fun z32=>?_) (fun z32=>?_)))))))
 have hx0:=hxi.2.2 z32
 have hct:=nx (d:=d) (i:=(a.code.getD i default).a.toNat)
 refine gK [_,_,_,_,_,_,_,_,_] [pn [] 0 1,pn [0] 0 1,aN,aN,ar [3],pe [2,3,4] 0,pn (rg 0 6) 1 1,pn (rg 0 7) 1 1,pe (rg 0 8) 1] [5,8] [_,_,_] (ai (kc Z (V Z)) (ai (kc Z (V Z)) (kc Z (kc Z (kc Z (ai (aG O (B0:=39000) Z Z Z Z (vG (d:=d) (z:=(a.code.getD i default).a) h1 h2 hx0 (by omega)) (ae Z) Z Z Z Z Z) (ai (vF Z) (kc Z (ai (eS Z Z Z) trivial))))))))) ?_
 refine jw [32,31,30,8,26,23,2,3,4,5,6,20,21,22] Z (ld ?_)
 refine ab ?_
 have hK1:((be (d.take (i+1)) (a.code.take (i+1))).map (bC d))=((be (d.take i) (a.code.take i)).map (bC d))++[bC d (a.code.getD i default)]:=by rw[ii hid hil,if_neg (by rw[z30];decide),List.map_append];rfl
 have hKl:((be (d.take (i+1)) (a.code.take (i+1))).map (bC d)).length=((be (d.take i) (a.code.take i)).map (bC d)).length+1:=by rw[hK1,cG];rfl
 have hKi:((be (d.take i) (a.code.take i)).map (bC d)).length≤i:=by rw[aQ];exact Nat.le_trans gF (by rw[List.length_take];omega)
 first|have hlx:=pJ (d:=d) z32|have hlx:=pI (d:=d) z32
 refine bb Z (jf [43,42,32,31,30,8,26,23,2,3,4,5,6,20,21,22] Z (bc (HS.lit O Z Z Z) Z (aA ?_)))
 refine jf [44,42,32,31,30,8,26,23,2,3,4,5,6,20,21,22] Z (bc (bE (zs:=((be (d.take (i+1)) (a.code.take (i+1))).map (bC d)).map In.cells) (n:=((be (d.take (i+1)) (a.code.take (i+1))).map (bC d)).length) O Z Z Z Z Z Z Z Z Z Z Z Z Z Z Z Z (.row Z (aQ _).symm) Z Z (by decide) Z (by simp only[aQ,dF,List.length_nil]at *;omega) (by simp only[aQ,dF,List.length_nil]at *;omega) (by rw[hK1,List.map_append,hlx];rfl) (aQ _)) Z (aA ?_))
 refine aA ?_
 refine js Z (jf [46,45,32,31,30,8,26,23,2,3,4,5,6,20,21,22] Z (jo Z (aA ?_)))
 refine jf [32,31,30,8,26,23,2,3,4,5,6,20,21,22] Z (jn (ab ?_))
 first|refine ji Z ?_|refine aR Z Z ?_
 refine js Z (jn ?_)
 refine⟨i+1,((aq [4,5,45,14000,17000] (e':=[(2,_),(3,_),(4,_),(5,_),(6,_),(20,_),(21,_),(22,_)]) Z Z ⟨Z,Z,Z,Z,Z,Z,Z,Z,aj⟩ Z).trans (am 45 900 Z Z)),by omega,by omega⟩
 refine ac (ab ?_)
 have hK1:((be (d.take (i+1)) (a.code.take (i+1))).map (bC d))=((be (d.take i) (a.code.take i)).map (bC d))++[bC d (a.code.getD i default)]:=by rw[ii hid hil,if_neg (by rw[z30];decide),List.map_append];rfl
 have hKl:((be (d.take (i+1)) (a.code.take (i+1))).map (bC d)).length=((be (d.take i) (a.code.take i)).map (bC d)).length+1:=by rw[hK1,cG];rfl
 have hKi:((be (d.take i) (a.code.take i)).map (bC d)).length≤i:=by rw[aQ];exact Nat.le_trans gF (by rw[List.length_take];omega)
 first|have hlx:=pJ (d:=d) z32|have hlx:=pI (d:=d) z32
 refine bb Z (jf [43,42,32,31,30,8,26,23,2,3,4,5,6,20,21,22] Z (bc (HS.lit O Z Z Z) Z (aA ?_)))
 refine jf [44,42,32,31,30,8,26,23,2,3,4,5,6,20,21,22] Z (bc (bE (zs:=((be (d.take (i+1)) (a.code.take (i+1))).map (bC d)).map In.cells) (n:=((be (d.take (i+1)) (a.code.take (i+1))).map (bC d)).length) O Z Z Z Z Z Z Z Z Z Z Z Z Z Z Z Z (.row Z (aQ _).symm) Z Z (by decide) Z (by simp only[aQ,dF,List.length_nil]at *;omega) (by simp only[aQ,dF,List.length_nil]at *;omega) (by rw[hK1,List.map_append,hlx];rfl) (aQ _)) Z (aA ?_))
 refine aA ?_
 refine js Z (jf [46,45,32,31,30,8,26,23,2,3,4,5,6,20,21,22] Z (jo Z (aA ?_)))
 refine jf [32,31,30,8,26,23,2,3,4,5,6,20,21,22] Z (jn (ab ?_))
 first|refine ji Z ?_|refine aR Z Z ?_
 refine js Z (jn ?_)
 refine⟨i+1,((aq [4,5,45,14000,17000] (e':=[(2,_),(3,_),(4,_),(5,_),(6,_),(20,_),(21,_),(22,_)]) Z Z ⟨Z,Z,Z,Z,Z,Z,Z,Z,aj⟩ Z).trans (am 45 900 Z Z)),by omega,by omega⟩
 refine aM (aa (af ?_))
 obtain rfl:i=a.code.length:=by have:=cS z23;omega
 have hKn:((be (d.take a.code.length) (a.code.take a.code.length)).map (bC d))=(aY d a).code:=by rw[List.take_length,←hw.len,List.take_length];rfl
 rw[hKn]
 refine ag Z ?_
 first|refine bP Z ?_|refine js Z ?_|refine aR Z Z ?_
 refine js Z (jn (ah (al (X:=Nat) (fun i=>⟨[(4,.c (.pt 4 0 0)),(5,.c (.pt 5 0 0)),(6,.c (.fn 98 [.d (.ptr [gZ d] 0)])),(49,lY a.pts),(50,eI a.pts.length),(51,eI i)],[(4,.box [.d .nils,.d .nils,.d .nils,.d .nils]),(5,.box [.rs 14000 0 a.pre.length,.rs 17000 0 a.post.length,.rs 900 0 (aY d a).code.length,.rs 901 0 i]),(900,cQ (aY d a).code),(901,cK ((a.pts.take i).map (eo d))),(14000,bA a.pre),(17000,bA a.post)]⟩) (fun i=>i≤a.pts.length) (fun i=>a.pts.length-i) 0 ((ea 5 901 2 true 3 Z Z Z).trans (Ent.to ⟨Z,Z,Z,Z,Z,Z,aj⟩ Z)) ?_ (fun i hi=>?_))))
 exact co _
 refine af (js Z (jn (aa (ao Z (fun z52=>?_) (fun z52=>?_)))))
 refine ac (aa (ah (af ?_)))
 have hil:i<a.pts.length:=by have:=bZ z52;omega
 have hpi:=hw.pts _ (gc hil)
 refine fO Z Z (js Z (jf [54,52,4,5,6,49,50,51] Z (jl Z (aA ?_))))
 refine jo Z (aA ?_)
 refine jn ?_
 have hct:=nx (d:=d) (i:=(a.pts.getD i default).k.toNat)
 refine u6 [_,_,_,_,_,_,_,_,_,_,_,_,_,_,_,_,_] [pn [] 0 3,pn [0] 0 3,pn [] 0 2,pn [2] 0 2,aN,aN,ar [5],pe [4,5,6] 0,pn (rg 2 6) 1 2,pn [] 0 1,pn [9] 0 1,pe [4,5,6,7,9,10] 1,pn (rg 2 10) 2 2,pe (rg 2 11) 2,pe (rg 0 14) 3,pn (rg 0 15) 4 4,pe (rg 0 16) 4] [7,11,13,14,16] [_,_,_,_,_,_] [[],[],[67000],[901,68],[]] (ai (ka Z Z (ka Z Z (ka Z Z (kw Z Z)))) (ai (ka Z Z (ka Z Z (ka Z Z (kw Z Z)))) (ai (ka Z Z (ka Z Z (kw Z Z))) (ai (ka Z Z (ka Z Z (kw Z Z))) (ka Z Z (ka Z Z (ka Z Z (ai (ai (bF (aG O (B0:=63000) Z Z Z Z (vG (d:=d) (z:=(a.pts.getD i default).k) h1 h2 hpi.1 (by omega)) (ae Z) Z Z Z Z Z)) Z) (ai (ai (ai (vF Z) Z) (ai (vF Z) Z)) (ai (ka Z Z (kw Z Z)) (ai (ka Z Z (kw Z Z)) (ai (ai (bF (bM O (B0:=67000) Z Z Z Z (li (ts:=(a.pts.getD i default).fs) h1 h2) (ae Z) Z Z Z Z Z)) Z) (ka Z Z (ai (ai (ir (l:=67000) (ds:=(eo d (a.pts.getD i default)).cells) O Z Z Z Z Z Z Z Z Z Z Z Z (fun e=>.d Z (.rs Z (aQ _).symm .nil)) Z Z) Z) (ai (ai (gt (xs:=((a.pts.take i).map (eo d)).map Pt.cells) (ys:=[(eo d (a.pts.getD i default)).cells]) (zs:=((a.pts.take (i+1)).map (eo d)).map Pt.cells) (n:=i+1) O Z Z Z Z Z Z Z Z Z Z Z Z Z Z Z Z (.row Z (by simp;omega)) Z Z (by decide) Z (by simp;omega) (by simp;omega) (by rw[List.take_succ_eq_append_getElem (show i<a.pts.length by omega),au (show i<a.pts.length by omega),List.map_append,List.map_append];rfl) (by simp;omega) Z) Z) (ka Z Z (ai (ai (bF (eS Z Z Z)) Z) trivial))))))))))))))))) ?_
 refine jw [10,54,52,4,5,6,49,50,51] Z (ld ?_)
 refine ab ?_
 first|refine ji Z ?_|refine aR Z Z ?_
 refine js Z (jn ?_)
 refine⟨i+1,((aq [4,5,900,69,14000,17000] (e':=[(4,_),(5,_),(6,_),(49,_),(50,_),(51,_)]) Z Z ⟨Z,Z,Z,Z,Z,Z,aj⟩ Z).trans (am 69 901 Z Z)).trans (Ent.to ⟨Z,Z,Z,Z,Z,Z,aj⟩ Z),by omega,by omega⟩
 refine aM (af (js Z (jo Z (aA ?_))))
 refine jr ?_
 obtain rfl:i=a.pts.length:=by have:=cS z52;omega
 rw[List.take_length]
 have hpl:a.pts.length=(aY d a).pts.length:=by simp[aY]
 rw[hpl]
 refine⟨.inl Z,_,bt,_,Z,[14000,17000,900,901],by decide,Z,Z,Z⟩
section
variable{L:Nat}{w:World}{ok:Nat→Prop}{m:Nat→Loc}
theorem kY: ∀{xs:List M} {vs},RMs L w ok m xs vs→RMs L w ok m (xs.map fun _=>M.junk) vs
 | _,_,.nil=>.nil
 | _,_,.cons h t=>.cons (.junk h.oneCell) (kY t)
theorem qF{ms:List M}{y:A}{x}(h:RA L w ok m (.tup [.agg ms,y]) x):RA L w ok m (.tup [.agg (ms.map fun _=>M.junk),y]) x:=by
 cases h with
 | tup h=>cases h with
  | cons h1 h2=>cases h1 with
    | agg h3=>exact .tup (.cons (.agg (kY h3)) h2)
end
theorem MC.weak{P:Program}{L f:Nat}{args:List A}{Hin:List (Nat×B)}{v r:A}(hj: ∀{w ok m x},RA L w ok m v x→RA L w ok m r x)(h:MC P L f args Hin (Plain v)):MC P L f args Hin (Plain r):=by
 refine⟨h.1,fun w m F ok vs h0 h1 h2 h3 h4 h5=>Calls.mono (h.2 w m F ok vs h0 h1 h2 h3 h4 h5) fun e w' he=>?_⟩
 cases e with
 | returned u=>
  obtain⟨r',H',m',F',⟨rfl,rfl⟩,a1,a2,a3,a4,a5,a6,a7⟩:=he
  exact⟨r,[],m',F',⟨Z,Z⟩,a1,a2,a3,hj a4,a5,a6,a7⟩
 | _=>exact he
theorem vv{α β:Type}[Inhabited α]{l:List α}{f:α→β}{n j:Nat}(h:n<l.length)(hj:j=n):(l.map f)[j]? = some (f (l.getD n default)):=by subst hj;simp[h]
theorem vn{α β:Type}{l:List α}{f:α→β}{n j:Nat}{v:α}{ds:β}(hj:j=n)(hd:ds=f v):(l.map f).set j ds=(l.set n v).map f:=by subst hj;subst hd;rw[List.map_set]
theorem rG{a:An}{e:Nat}(h:(bif (bif decide ((e:Int)<a.code.length)then !cT a.pts e else false)then !fC a.code e else false)=false):a.code.length≤e∨f8 a.code a.pts (e:Int)=true:=by
 rcases Nat.lt_or_ge e a.code.length with h0|h0
 right
 rw[decide_eq_true (show(e:Int)<a.code.length by omega)]at h
 show(fC a.code e||cT a.pts e)=true
 cases h1:fC a.code e<;>cases h2:cT a.pts e<;>simp_all
 exact .inl h0
theorem rY{a b:An}(h:cD a=some b):0<b.code.length:=by
 obtain⟨j,_,_,h3,h4,_⟩:=c9 h
 subst h4
 have h2:1≤(az a j).2.length:=(cN h3).one
 simp only[bU,aQ,cG];omega
theorem rQ{a:An}{k:Nat}(hA:AOk a)(hr:0<(az a k).1):WkOk ⟨a.pre,a.post,(cI a.code (az a k).2 k (az a k).1),a.pts⟩ (dI a.code.length k (az a k).2.length (az a k).1):=by
 have hk:=fT hr
 have hok:=cN hr
 have hl1:(az a k).2.length<(az a k).1:=hok.lt
 have hs: ∀x∈dA a.code a.pts k,aE x=true:=fun x hx=>by
  obtain⟨i,hi,rfl⟩:=List.getElem_of_mem hx
  have h1:=fQ (c:=a.code) (ps:=a.pts) (k:=k)
  have:=dW hi
  rw[au hi,au (by omega)]at this
  rw[this];exact hA.code _ (List.getElem_mem _)
 have hcl:(cI a.code (az a k).2 k (az a k).1).length=a.code.length:=oq (by omega)
 have hin: ∀x,aE x=true→ -1000000≤x.a∧x.a≤1000000∧(bI x=true→0≤x.a):=fun x hx=>by
  have h1:=cv hx
  refine⟨h1.1,h1.2,fun hj=>?_⟩
  simp only[bI,Bool.or_eq_true,decide_eq_true_eq]at hj
  unfold aE at hx
  rw[if_neg (by omega),if_neg (by omega),if_pos hj]at hx
  simp only[cH,bD,decide_eq_true_eq]at hx;omega
 refine⟨(om hk (by omega)).trans hcl.symm,hcl ▸ hA.len,fun x hx=>hin x ?_,hA.pts⟩
 simp only[cI,List.mem_append]at hx
 rcases hx with hx|hx|hx
 exact hA.code x (List.mem_of_mem_take hx)
 exact hok.ok hs x (List.mem_of_mem_take hx)
 exact hA.code x (List.mem_of_mem_drop hx)
theorem vA{b:An}(hA:AOk a)(hs:cD a=some b):MQ h1 h2 62 [aAn a] [] (Rows (.tup [gM b,eB true]) (jd b)):=by
 refine bd (jB 85 h1 h2 Tryz.func62 Z fun O hF=>?_)
 have hl:a.code.length≤L:=by simpa[As.fact,A.fact,M.fact,Ms.fact,D.fact,Ds.fact]using hF.1.2.2.1.1
 have h80:=hA.len
 refine af (jx Z (aA ?_))
 refine bw (Ent.freeze 1 (e':=[(1,_),(0,_)]) Z (.cons Z (.c (.box (cs:=a.data) Z (aV Z))) (fe [0] Z)) (.skip .nil)) ?_
 refine aA ?_
 refine jf [1] Z (jl Z (aA ?_))
 refine js Z (jn (aa (af (ag Z ?_))))
 first|refine bP Z ?_|refine js Z ?_|refine aR Z Z ?_
 refine js Z (jf [14,13,3,2,1] Z (jn (ah (al (X:=Nat) (fun k=>⟨[(1,ptr a.data),(2,.c (.pt 2 0 0)),(13,eI a.code.length),(14,eI k)],[(2,.box [.d .nils,.d .nils,.d .nils,.d .nils])]⟩) (fun k=>k≤a.code.length∧∀j,j<k→(az a j).1=0) (fun k=>a.code.length-k) 0 (Ent.to ⟨Z,Z,Z,Z,aj⟩ Z) ?_ (fun k hi=>?_)))))
 exact⟨co _,fun j hj=>absurd hj (Nat.not_lt_zero j)⟩
 refine af (js Z (jn (aa (ao Z (fun z15=>?_) (fun z15=>?_)))))
 refine ac (aa (ah (af ?_)))
 have hk:k<a.code.length:=by have:=bZ z15;omega
 have hk0:=hi
 refine ag Z (bm (js Z (ak ((vF Z).cast (v':=eI ((k+1:Nat):Int)) (congrArg eI (by omega))) Z (jf [18,4,16,15,1,2,13,14] Z (jl Z (aA ?_))))))
 refine jo Z (aA ?_)
 refine jn (aa (ah (al (X:=Nat) (fun e=>⟨[(1,ptr a.data),(2,.c (.pt 2 0 0)),(13,eI a.code.length),(14,eI k),(4,eI k),(5,.c (.pt 5 0 0))],[(2,.box [.d .nils,.d .nils,.d .nils,.d .nils]),(5,.box [.d (.int .i64 (e:Nat))])]⟩) (fun e=>k<e∧e≤a.code.length∧∀j,k<j→j<e→f8 a.code a.pts (j:Int)=false) (fun e=>a.code.length-e) (k+1) (Ent.to ⟨Z,Z,Z,Z,Z,Z,aj⟩ Z) ?_ (fun e hi=>?_))))
 exact⟨Nat.lt_succ_self k,hk,fun j g1 g2=>absurd g2 (by omega)⟩
 refine aa (aa (bu ⟨[(36,eB (bif (bif decide ((e:Int)<a.code.length)then !cT a.pts e else false)then !fC a.code e else false)),(1,ptr a.data),(2,.c (.pt 2 0 0)),(13,eI a.code.length),(14,eI k),(4,eI k),(5,.c (.pt 5 0 0))],[(2,.box [.d .nils,.d .nils,.d .nils,.d .nils]),(5,.box [.d (.int .i64 (e:Nat))])]⟩ ?_ ?_))
 refine ab (bb Z ?_)
 first|refine bP Z ?_|refine js Z ?_|refine aR Z Z ?_
 refine js Z ?_
 cases hb24:decide ((e:Int)<a.code.length)with
 | true=>
  refine js Z (jf [24,1,2,13,14,4,5] Z (bh Z (js Z (bh Z (js Z (bh Z (ba Z (p9 (a:=a) (k:=(e:Int)) h1 h2) 28000 Z (jf [27,24,1,2,13,14,4,5] Z (bh Z (ak ((V Z).cast (v':=eB (!cT a.pts e)) (congrArg eB iE)) Z (ak (aB O Z Z Z Z Z) Z ?_)))))))))))
  cases hb30:(!cT a.pts e)with
  | true=>
   refine js Z (jf [30,1,2,13,14,4,5] Z (bh Z (js Z (bh Z (js Z (jf [32,30,1,2,13,14,4,5] Z (bh Z (js Z (bh Z (aP O Z Z Z Z (ue (c:=a.code) (e:=(e:Int)) h1 h2) (.cons (.c .d) (.cons (.c (.fn (.cons (.pb Z (.cons .d .nil)) .nil))) .nil)) Z Z Z Z Z (B0:=35000) Z (jf [34,30,1,2,13,14,4,5] Z (bh Z (js Z (ak (aB O Z Z Z Z Z) Z (jf [36,1,2,13,14,4,5] Z (jn ?_))))))))))))))))
   exact⟨Z,Ent.to ⟨Z,Z,Z,Z,Z,Z,Z,aj⟩ Z⟩
  | false=>
   refine js Z (jf [30,1,2,13,14,4,5] Z (ay Z (ay Z (jf [32,30,1,2,13,14,4,5] Z (ay Z (ay Z (jf [34,30,1,2,13,14,4,5] Z (ay Z (ak (ap O Z Z Z Z Z) Z (jf [36,1,2,13,14,4,5] Z (jn ?_)))))))))))
   exact⟨Z,Ent.to ⟨Z,Z,Z,Z,Z,Z,Z,aj⟩ Z⟩
 | false=>
  refine js Z (jf [24,1,2,13,14,4,5] Z (ay Z (ay Z (ay Z (jf [27,24,1,2,13,14,4,5] Z (ay Z (ak (ap O Z Z Z Z Z) Z (js Z (jf [30,1,2,13,14,4,5] Z (ay Z (ay Z (jf [32,30,1,2,13,14,4,5] Z (ay Z (ay Z (jf [34,30,1,2,13,14,4,5] Z (ay Z (ak (ap O Z Z Z Z Z) Z (jf [36,1,2,13,14,4,5] Z (jn ?_)))))))))))))))))))
  exact⟨Z,Ent.to ⟨Z,Z,Z,Z,Z,Z,Z,aj⟩ Z⟩
 refine ao Z (fun z36=>?_) (fun z36=>?_)
 refine ac (ah (ab ?_))
 obtain⟨h8,h7⟩:=kk z36
 obtain⟨h6,h9⟩:=kk h8
 have hen:e<a.code.length:=by have:=bZ h6;omega
 refine js Z (ak ((vF Z).cast (v':=eI ((e+1:Nat):Int)) (congrArg eI (by omega))) Z (jf [38,36,1,2,13,14,4,5] Z (jo Z (aA ?_))))
 refine jn ?_
 refine⟨e+1,Ent.to ⟨Z,Z,Z,Z,Z,Z,aj⟩ Z,⟨by omega,hen,fun j g1 g2=>?_⟩,by omega⟩
 by_cases e9:j=e
 subst e9;show(fC a.code j||cT a.pts j)=false;rw[lg h7,lg h9];rfl
 exact hi.2.2 j g1 (by omega)
 refine aM (af ?_)
 have hsg:dA a.code a.pts k=(a.code.drop k).take (e-k):=mX hi.1 hi.2.1 hi.2.2 (rG z36)
 have hsi: ∀x∈dA a.code a.pts k,aE x=true:=fun x hx=>hA.code x (by rw[hsg]at hx;exact List.mem_of_mem_drop (List.mem_of_mem_take hx))
 refine bp Z (ak (eW (sz:=2) (xs:=a.code.map In.cells) (a:=k) (b:=e) (ys:=(dA a.code a.pts k).map In.cells) O Z Z Z Z Z Z Z Z Z km km ⟨by omega,by rw[aQ];exact hi.2.1⟩ (by rw[hsg,List.map_take,List.map_drop])) Z (jf [44,36,1,2,13,14,4,5] Z (cj O Z Z Z Z (vJ (s:=dA a.code a.pts k) h1 h2 (mb hk) hsi) (ae Z) Z Z Z Z (B0:=46000) Z Z (bp Z (js Z (jf [7,6,36,1,2,13,14,4,5] Z (jn (aa (af (ag Z (jn (ao Z (fun z49=>?_) (fun z49=>?_)))))))))))))
 refine aM (ab (ak ((vF Z).cast (v':=eI ((k+1:Nat):Int)) (congrArg eI (by omega))) Z (js Z (jn ?_))))
 refine⟨k+1,(aq [2] (e':=[(1,_),(2,_),(13,_),(14,_)]) Z Z ⟨Z,Z,Z,Z,aj⟩ Z).trans (Ent.to ⟨Z,Z,Z,Z,aj⟩ Z),⟨hk,fun j hj=>?_⟩,by omega⟩
 by_cases e9:j=k
 subst e9;have:((az a j).1:Int)=0:=bZ z49;omega
 exact hk0.2 j (by omega)
 refine ac (af ?_)
 have hr:0<(az a k).1:=by have: ¬((az a k).1:Int)=0:=cS z49;omega
 have hkn:=fT hr
 have hmn:(az a k).2.length<(az a k).1:=(cN hr).lt
 refine js Z (aC O (B0:=52000) Z Z Z Z (vj (a:=a) h1 h2 (by omega) (by omega)) (ae Z) Z Z Z Z Z Z (aA ?_))
 refine jf [51,49,48,7,6,36,1,2,13,14,4,5] Z (jl Z (aA ?_))
 refine jo Z (aA ?_)
 refine bm (ag Z ?_)
 first|refine bP Z ?_|refine js Z ?_|refine aR Z Z ?_
 refine jf [54,8,51,49,48,7,6,36,1,2,13,14,4,5] Z (bc (fo O Z Z Z Z Z Z Z Z Z (by first|omega|(simp at *;omega)) (by first|omega|(simp at *;omega)) (by first|omega|(simp at *;omega)) (by first|omega|(dsimp only;omega)|(simp only[aS]at *;omega)) (by first|omega|(simp at *;omega)) Z Z Z) Z (aA ?_))
 refine js Z (jf [9,8,51,49,48,7,6,36,1,2,13,14,4,5] Z (jn (aa (af (ag Z (jn (ah (al (X:=Nat) (fun i=>⟨[(2,.c (.pt 2 0 0)),(4,eI k),(6,eI (az a k).1),(7,cn (az a k).2),(8,.c (.pt 8 0 0)),(9,.c (.rs 55 0 a.code.length)),(56,eI (az a k).1),(57,eI i)],[(2,.box [.d .nils,.d .nils,.d .nils,.d .nils]),(8,.box [.rs 52000 0 a.pre.length,.rs 52001 0 a.post.length,.rs 52002 0 a.code.length,.rs 52003 0 a.pts.length]),(55,jc (dI a.code.length k (az a k).2.length i)),(52000,bA a.pre),(52001,bA a.post),(52002,cQ (cI a.code (az a k).2 k i)),(52003,cK a.pts)]⟩) (fun i=>i≤(az a k).1) (fun i=>(az a k).1-i) 0 ((aq [2,8,55,52000,52001,52002,52003] (e':=[(2,_),(4,_),(6,_),(7,_),(8,_),(9,_),(56,_),(57,_)]) Z Z ⟨Z,Z,Z,Z,Z,Z,Z,Z,aj⟩ Z).trans (Ent.to ⟨Z,Z,Z,Z,Z,Z,Z,Z,aj⟩ (by rw[tL,tD (by omega),jc,List.map_replicate];rfl))) ?_ (fun i hi=>?_)))))))))
 exact co _
 refine af (js Z (jn (aa (ao Z (fun z58=>?_) (fun z58=>?_)))))
 refine ac (aa (ah (af ?_)))
 have hin:i<(az a k).1:=by have:=bZ z58;omega
 refine ag Z (bm (ag Z ?_))
 first|refine bP Z ?_|refine js Z ?_|refine aR Z Z ?_
 refine js Z (jf [63,10,59,58,2,4,6,7,8,9,56,57] Z (jn (ao Z (fun z63=>?_) (fun z63=>?_))))
 refine gK [_,_,_,_,_,_,_,_,_,_,_] [aN,ar [0],aN,aN,ar [2,3],aN,aN,ar [5,6],ar [5,6,7],ar (rg 0 9),pe (rg 0 10) 0] [10] [_,_] (qW Z (ai ((vF Z).cast (v':=eI ((k+i:Nat):Int)) (congrArg eI (by omega))) (kc Z (kc Z (ai (ax O Z Z Z Z Z Z Z Z (bJ (by have:=bZ z63;omega))) (kc Z (ai (vI Z Z) (ai (f4 (ex:=In.cells ((cI a.code (az a k).2 k i).getD (k+i) default)) (xs':=(cI a.code (az a k).2 k (i+1)).map In.cells) O Z Z Z Z Z Z Z Z Z Z Z Z Z Z Z (vv (by rw[oq (by omega)];omega) (by omega)) ((vn (v:=(az a k).2.getD i default) (by omega) Z).trans (congrArg (List.map In.cells) (uN (by have:=bZ z63;omega) (by omega)))) Z) trivial)))))))) ?_
 refine jw [63,10,59,58,2,4,6,7,8,9,56,57] Z (ld ?_)
 refine ab ?_
 first|refine ji Z ?_|refine aR Z Z ?_
 refine js Z (jn ?_)
 have h9:(dI a.code.length k (az a k).2.length (i+1))=(dI a.code.length k (az a k).2.length i):=tE (by have:=bZ z63;omega)
 refine⟨i+1,Ent.to ⟨Z,Z,Z,Z,Z,Z,Z,Z,aj⟩ (by rw[h9];try exact Z),by omega,by omega⟩
 refine ab (bb Z (ak ((vF Z).cast (v':=eI ((k+i:Nat):Int)) (congrArg eI (by omega))) Z ?_))
 first|refine fO Z Z ?_|refine er Z Z ?_|refine aR Z Z ?_
 refine jf [78,63,10,59,58,2,4,6,7,8,9,56,57] Z (bc (bl (ex:=bL ((dI a.code.length k (az a k).2.length i).getD (k+i) default)) (xs':=(dI a.code.length k (az a k).2.length (i+1)).map bL) O Z Z Z Z Z Z Z Z Z Z Z Z Z Z (vv (by rw[om (by omega) (by omega)];omega) (by omega)) ((vn (v:=true) (by omega) Z).trans (congrArg (List.map bL) (uL (by have:=cS z63;omega) (by omega))))) Z (aA ?_))
 refine aA ?_
 refine jn (ab ?_)
 first|refine ji Z ?_|refine aR Z Z ?_
 refine js Z (jn ?_)
 have h9:(cI a.code (az a k).2 k (i+1))=(cI a.code (az a k).2 k i):=tM (by have:=cS z63;omega)
 refine⟨i+1,Ent.to ⟨Z,Z,Z,Z,Z,Z,Z,Z,aj⟩ (by rw[h9];try exact Z),by omega,by omega⟩
 refine aM (af ?_)
 obtain rfl:i=(az a k).1:=by have:=cS z58;omega
 refine ag Z (aC O (B0:=83000) Z Z Z Z (ut (a:=⟨a.pre,a.post,(cI a.code (az a k).2 k (az a k).1),a.pts⟩) (d:=(dI a.code.length k (az a k).2.length (az a k).1)) h1 h2 (rQ hA hr)) (.cons (.agg (.cons (.whole Z (aQ _).symm) (.cons (.whole Z (aQ _).symm) (.cons (.whole Z (by rw[aQ,oq (by omega)])) (.cons (.whole Z (aQ _).symm) .nil))))) (.cons (.c (.whole Z (by rw[aQ,om (by omega) (by omega)]))) .nil)) Z Z Z Z Z Z (aA ?_))
 refine jf [82,58,2,4,6,7,8,9,56,57] Z (jo Z (aA ?_))
 refine js Z (jr ?_)
 have hb9:b=bU a k (az a k).1 (az a k).2:=Option.some.inj (hs.symm.trans (kF hk hr hk0.2))
 rw[hb9,←nI hA hr]
 refine⟨.inl Z,_,bt,_,Z,[83000,83001,83002,83003],by decide,Z,Z,Z⟩
 exact absurd (hs.symm.trans (nh fun j hj=>hi.2 j (by have:=cS z15;omega))) (by simp)
theorem xW(hA:AOk a)(hs:cD a=none):MQ h1 h2 62 [aAn a] [] (Plain (.tup [aAn a,eB false])):=by
 refine MC.data (jB 85 h1 h2 Tryz.func62 Z fun O hF=>?_)
 have hl:a.code.length≤L:=by simpa[As.fact,A.fact,M.fact,Ms.fact,D.fact,Ds.fact]using hF.1.2.2.1.1
 have h80:=hA.len
 refine af (jx Z (aA ?_))
 refine bw (Ent.freeze 1 (e':=[(1,_),(0,_)]) Z (.cons Z (.c (.box (cs:=a.data) Z (aV Z))) (fe [0] Z)) (.skip .nil)) ?_
 refine aA ?_
 refine jf [1] Z (jl Z (aA ?_))
 refine js Z (jn (aa (af (ag Z ?_))))
 first|refine bP Z ?_|refine js Z ?_|refine aR Z Z ?_
 refine js Z (jf [14,13,3,2,1] Z (jn (ah (al (X:=Nat) (fun k=>⟨[(1,ptr a.data),(2,.c (.pt 2 0 0)),(13,eI a.code.length),(14,eI k)],[(2,.box [.d .nils,.d .nils,.d .nils,.d .nils])]⟩) (fun k=>k≤a.code.length∧∀j,j<k→(az a j).1=0) (fun k=>a.code.length-k) 0 (Ent.to ⟨Z,Z,Z,Z,aj⟩ Z) ?_ (fun k hi=>?_)))))
 exact⟨co _,fun j hj=>absurd hj (Nat.not_lt_zero j)⟩
 refine af (js Z (jn (aa (ao Z (fun z15=>?_) (fun z15=>?_)))))
 refine ac (aa (ah (af ?_)))
 have hk:k<a.code.length:=by have:=bZ z15;omega
 have hk0:=hi
 refine ag Z (bm (js Z (ak ((vF Z).cast (v':=eI ((k+1:Nat):Int)) (congrArg eI (by omega))) Z (jf [18,4,16,15,1,2,13,14] Z (jl Z (aA ?_))))))
 refine jo Z (aA ?_)
 refine jn (aa (ah (al (X:=Nat) (fun e=>⟨[(1,ptr a.data),(2,.c (.pt 2 0 0)),(13,eI a.code.length),(14,eI k),(4,eI k),(5,.c (.pt 5 0 0))],[(2,.box [.d .nils,.d .nils,.d .nils,.d .nils]),(5,.box [.d (.int .i64 (e:Nat))])]⟩) (fun e=>k<e∧e≤a.code.length∧∀j,k<j→j<e→f8 a.code a.pts (j:Int)=false) (fun e=>a.code.length-e) (k+1) (Ent.to ⟨Z,Z,Z,Z,Z,Z,aj⟩ Z) ?_ (fun e hi=>?_))))
 exact⟨Nat.lt_succ_self k,hk,fun j g1 g2=>absurd g2 (by omega)⟩
 refine aa (aa (bu ⟨[(36,eB (bif (bif decide ((e:Int)<a.code.length)then !cT a.pts e else false)then !fC a.code e else false)),(1,ptr a.data),(2,.c (.pt 2 0 0)),(13,eI a.code.length),(14,eI k),(4,eI k),(5,.c (.pt 5 0 0))],[(2,.box [.d .nils,.d .nils,.d .nils,.d .nils]),(5,.box [.d (.int .i64 (e:Nat))])]⟩ ?_ ?_))
 refine ab (bb Z ?_)
 first|refine bP Z ?_|refine js Z ?_|refine aR Z Z ?_
 refine js Z ?_
 cases hb24:decide ((e:Int)<a.code.length)with
 | true=>
  refine js Z (jf [24,1,2,13,14,4,5] Z (bh Z (js Z (bh Z (js Z (bh Z (ba Z (p9 (a:=a) (k:=(e:Int)) h1 h2) 28000 Z (jf [27,24,1,2,13,14,4,5] Z (bh Z (ak ((V Z).cast (v':=eB (!cT a.pts e)) (congrArg eB iE)) Z (ak (aB O Z Z Z Z Z) Z ?_)))))))))))
  cases hb30:(!cT a.pts e)with
  | true=>
   refine js Z (jf [30,1,2,13,14,4,5] Z (bh Z (js Z (bh Z (js Z (jf [32,30,1,2,13,14,4,5] Z (bh Z (js Z (bh Z (aP O Z Z Z Z (ue (c:=a.code) (e:=(e:Int)) h1 h2) (.cons (.c .d) (.cons (.c (.fn (.cons (.pb Z (.cons .d .nil)) .nil))) .nil)) Z Z Z Z Z (B0:=35000) Z (jf [34,30,1,2,13,14,4,5] Z (bh Z (js Z (ak (aB O Z Z Z Z Z) Z (jf [36,1,2,13,14,4,5] Z (jn ?_))))))))))))))))
   exact⟨Z,Ent.to ⟨Z,Z,Z,Z,Z,Z,Z,aj⟩ Z⟩
  | false=>
   refine js Z (jf [30,1,2,13,14,4,5] Z (ay Z (ay Z (jf [32,30,1,2,13,14,4,5] Z (ay Z (ay Z (jf [34,30,1,2,13,14,4,5] Z (ay Z (ak (ap O Z Z Z Z Z) Z (jf [36,1,2,13,14,4,5] Z (jn ?_)))))))))))
   exact⟨Z,Ent.to ⟨Z,Z,Z,Z,Z,Z,Z,aj⟩ Z⟩
 | false=>
  refine js Z (jf [24,1,2,13,14,4,5] Z (ay Z (ay Z (ay Z (jf [27,24,1,2,13,14,4,5] Z (ay Z (ak (ap O Z Z Z Z Z) Z (js Z (jf [30,1,2,13,14,4,5] Z (ay Z (ay Z (jf [32,30,1,2,13,14,4,5] Z (ay Z (ay Z (jf [34,30,1,2,13,14,4,5] Z (ay Z (ak (ap O Z Z Z Z Z) Z (jf [36,1,2,13,14,4,5] Z (jn ?_)))))))))))))))))))
  exact⟨Z,Ent.to ⟨Z,Z,Z,Z,Z,Z,Z,aj⟩ Z⟩
 refine ao Z (fun z36=>?_) (fun z36=>?_)
 refine ac (ah (ab ?_))
 obtain⟨h8,h7⟩:=kk z36
 obtain⟨h6,h9⟩:=kk h8
 have hen:e<a.code.length:=by have:=bZ h6;omega
 refine js Z (ak ((vF Z).cast (v':=eI ((e+1:Nat):Int)) (congrArg eI (by omega))) Z (jf [38,36,1,2,13,14,4,5] Z (jo Z (aA ?_))))
 refine jn ?_
 refine⟨e+1,Ent.to ⟨Z,Z,Z,Z,Z,Z,aj⟩ Z,⟨by omega,hen,fun j g1 g2=>?_⟩,by omega⟩
 by_cases e9:j=e
 subst e9;show(fC a.code j||cT a.pts j)=false;rw[lg h7,lg h9];rfl
 exact hi.2.2 j g1 (by omega)
 refine aM (af ?_)
 have hsg:dA a.code a.pts k=(a.code.drop k).take (e-k):=mX hi.1 hi.2.1 hi.2.2 (rG z36)
 have hsi: ∀x∈dA a.code a.pts k,aE x=true:=fun x hx=>hA.code x (by rw[hsg]at hx;exact List.mem_of_mem_drop (List.mem_of_mem_take hx))
 refine bp Z (ak (eW (sz:=2) (xs:=a.code.map In.cells) (a:=k) (b:=e) (ys:=(dA a.code a.pts k).map In.cells) O Z Z Z Z Z Z Z Z Z km km ⟨by omega,by rw[aQ];exact hi.2.1⟩ (by rw[hsg,List.map_take,List.map_drop])) Z (jf [44,36,1,2,13,14,4,5] Z (cj O Z Z Z Z (vJ (s:=dA a.code a.pts k) h1 h2 (mb hk) hsi) (ae Z) Z Z Z Z (B0:=46000) Z Z (bp Z (js Z (jf [7,6,36,1,2,13,14,4,5] Z (jn (aa (af (ag Z (jn (ao Z (fun z49=>?_) (fun z49=>?_)))))))))))))
 refine aM (ab (ak ((vF Z).cast (v':=eI ((k+1:Nat):Int)) (congrArg eI (by omega))) Z (js Z (jn ?_))))
 refine⟨k+1,(aq [2] (e':=[(1,_),(2,_),(13,_),(14,_)]) Z Z ⟨Z,Z,Z,Z,aj⟩ Z).trans (Ent.to ⟨Z,Z,Z,Z,aj⟩ Z),⟨hk,fun j hj=>?_⟩,by omega⟩
 by_cases e9:j=k
 subst e9;have:((az a j).1:Int)=0:=bZ z49;omega
 exact hk0.2 j (by omega)
 exact absurd (hs.symm.trans (kF hk (by have: ¬((az a k).1:Int)=0:=cS z49;omega) hk0.2)) (by simp)
 refine aM (af (js Z (jo Z (aA ?_))))
 refine js Z (jr ?_)
 refine aD Z ?_
 exact .tup (.cons (.agg (aV Z)) (.cons (.c .d) .nil))
theorem vB{L:Nat}(h1:4096≤L)(h2:L≤1073741824){a:An}(hA:AOk a)(hs:cD a=none):MC Tryz.prog L 62 [aAn a] [] (Rows (.tup [.agg [.junk,.junk,.junk,.junk],eB false]) []):=(xW h1 h2 hA hs).weak fun h=>qF (ms:=a.data.map .d) h
theorem xY(hv:bB a=true):MQ h1 h2 24 [aAn a] [] (Rows (.tup [gM (bT a),eB true]) (jd (bT a))):=by
 refine bd (jB 22 h1 h2 Tryz.func24 Z fun O hF=>?_)
 have hA:=eF hv
 have hlc:=lO (show dE a.code=true by unfold bB at hv;simp only[bD]at hv;exact hv.1)
 refine af (jx Z (aA ?_))
 refine bw (Ent.freeze 1 (e':=[(1,_),(0,_)]) Z (.cons Z (.c (.box (cs:=a.data) Z (aV Z))) (fe [0] Z)) (.skip .nil)) ?_
 refine aA ?_
 refine jf [1] Z (jl Z (aA ?_))
 refine js Z (jn (aa (af (js Z (ba Z ((va (a:=a) h1 h2).plain (u:=eB true) (by rw[hv])) 9000 Z (js Z (jf [9,3,2,1] Z (jn (ao Z (fun z9=>?_) (fun z9=>?_))))))))))
 cases z9
 refine ac (af (js Z (jf [11,3,2,1] Z (aC O (B0:=13000) Z Z Z Z (vj (a:=a) h1 h2 (by omega) (by omega)) (ae Z) Z Z Z Z Z Z (aA ?_)))))
 refine jf [12,3,2,1] Z (jl Z (aA ?_))
 refine jo Z (aA ?_)
 refine jn (ah (al (X:=An) (fun x=>⟨[(2,.c (.pt 2 0 0)),(4,.c (.pt 4 0 0))],[(2,.box [.d .nils,.d .nils,.d .nils,.d .nils]),(4,.box [.rs 901 0 x.pre.length,.rs 902 0 x.post.length,.rs 903 0 x.code.length,.rs 904 0 x.pts.length]),(901,bA x.pre),(902,bA x.post),(903,cQ x.code),(904,cK x.pts)]⟩) (fun x=>Gn a x∧0<x.code.length) (fun x=>x.code.length) a ((((((aq [2,4,13000,13001,13002,13003] (e':=[(2,_),(4,_)]) Z Z ⟨Z,Z,aj⟩ Z).trans (am 13000 901 Z Z)).trans (am 13001 902 Z Z)).trans (am 13002 903 Z Z)).trans (am 13003 904 Z Z)).trans (Ent.to ⟨Z,Z,aj⟩ Z)) ?_ (fun x hi=>?_)))
 exact⟨Gn.zero hA,by omega⟩
 refine ah (af (js Z ?_))
 cases hb15:(cD x).isSome with
 | true=>
  obtain⟨b,hs⟩:=Option.isSome_iff_exists.1 hb15
  first|refine aC O (B0:=16000) Z Z Z Z (vA (a:=x) (b:=b) h1 h2 hi.1.ok hs) (.cons (.agg (.cons (.whole Z (aQ _).symm) (.cons (.whole Z (aQ _).symm) (.cons (.whole Z (aQ _).symm) (.cons (.whole Z (aQ _).symm) .nil))))) .nil) Z Z Z Z Z Z ?_|refine aC O (B0:=16000) Z Z Z Z (vB (a:=x) h1 h2 hi.1.ok hs) (.cons (.agg (.cons (.whole Z (aQ _).symm) (.cons (.whole Z (aQ _).symm) (.cons (.whole Z (aQ _).symm) (.cons (.whole Z (aQ _).symm) .nil))))) .nil) Z Z Z Z Z Z ?_
  refine aA ?_
  refine bb Z (jf [17,16,2,4] Z (jl Z (aA ?_)))
  refine jo Z (aA ?_)
  refine js Z (jf [6,5,2,4] Z (jn (aa (af (ag Z (jf [19,5,2,4] Z (jn (ao Z (fun z19=>?_) (fun z19=>?_)))))))))
  cases z19
  refine ac (ab (js Z (jo Z (aA ?_))))
  refine jn ?_
  have hst:=hi.1.step hs
  refine⟨b,(((((aq [2,4,16000,16001,16002,16003] (e':=[(2,_),(4,_)]) Z Z ⟨Z,Z,aj⟩ Z).trans (am 16000 901 Z Z)).trans (am 16001 902 Z Z)).trans (am 16002 903 Z Z)).trans (am 16003 904 Z Z)).trans (Ent.to ⟨Z,Z,aj⟩ Z),⟨hst.1,rY hs⟩,hst.2⟩
 | false=>
  have hs:cD x=none:=by simpa using hb15
  first|refine aC O (B0:=16000) Z Z Z Z (vA (a:=x) (b:=b) h1 h2 hi.1.ok hs) (.cons (.agg (.cons (.whole Z (aQ _).symm) (.cons (.whole Z (aQ _).symm) (.cons (.whole Z (aQ _).symm) (.cons (.whole Z (aQ _).symm) .nil))))) .nil) Z Z Z Z Z Z ?_|refine aC O (B0:=16000) Z Z Z Z (vB (a:=x) h1 h2 hi.1.ok hs) (.cons (.agg (.cons (.whole Z (aQ _).symm) (.cons (.whole Z (aQ _).symm) (.cons (.whole Z (aQ _).symm) (.cons (.whole Z (aQ _).symm) .nil))))) .nil) Z Z Z Z Z Z ?_
  refine aA ?_
  refine bb Z (jf [17,16,2,4] Z (jl Z (aA ?_)))
  refine jo Z (aA ?_)
  refine js Z (jf [6,5,2,4] Z (jn (aa (af (ag Z (jf [19,5,2,4] Z (jn (ao Z (fun z19=>?_) (fun z19=>?_)))))))))
  refine af (js Z (jo Z (aA ?_)))
  refine js Z (jr ?_)
  rw[show bT a=x from hi.1.done hs]
  refine⟨.inl Z,_,bt,_,Z,[901,902,903,904],by decide,Z,Z,Z⟩
  cases z19
end Go.Al
