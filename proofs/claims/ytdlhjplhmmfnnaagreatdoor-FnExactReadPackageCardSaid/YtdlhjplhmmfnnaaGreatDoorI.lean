/- The readers of packages of both sides, walked. -/
import Derived.Test.YtdlhjplhmmfnnaaGreatDoorF
import Derived.Test.YtdlhjplhmmfnnaaGreatDoorG
import Derived.Test.YtdlhjplhmmfnnaaGreatDoorE
import Derived.Test.YtdlhjplhmmfnnaaGreatDoorH
set_option linter.unusedVariables false
set_option linter.unusedSimpArgs false
set_option maxRecDepth 10000
open Go.Proofs
/- Numbers and texts that are read from bytes, in plain Lean. -/
namespace Go.Al
variable{L:Nat}(h1:4096≤L)(h2:L≤1073741824)
open Go.Lib
def dE:Nat→Str→Option (Nat×Nat×Nat)
  | 0,_=>none
  | _+1,[]=>none
  | f + 1,b::r=>if b.toNat<128 then some (b.toNat,1,b.toNat)else match dE f r with
    | none=>none
    | some (m,k,l)=>some ((b.toNat-128)+128*m,k+1,l)
def oO(m:Nat):Int:=if m%2=1 then -((m/2:Nat):Int)-1 else((m/2:Nat):Int)
def r9(n:Int):Nat:=if n<0 then(-2*n-1).toNat else(2*n).toNat
theorem uW(m:Nat):r9 (oO m)=m:=by
 unfold r9 oO
 by_cases h:m%2=1
 rw[if_pos h,if_pos (by omega)];omega
 rw[if_neg h,if_neg (by omega)];omega
def iv(n:Int):Bool:=cQ (-1000000000000000) 1000000000000000 n
theorem pw: ∀{f:Nat} {s:Str} {m k l:Nat},dE f s=some (m,k,l)→0<k∧k≤f∧k≤s.length∧m<128^k∧(m=0→l=0)∧(k=1→m=l)
 | 0,s,m,k,l,h=>by rw[dE]at h;cases h
 | f+1,[],m,k,l,h=>by rw[dE]at h;cases h
 | f+1,b::r,m,k,l,h=>by
  rw[dE]at h
  split at h
  rename_i hb
  cases h
  exact⟨by decide,by omega,by rw[db];omega,by simpa using hb,fun e=>e,fun _=>rfl⟩
  rename_i hb
  split at h
  cases h
  rename_i m' k' l' hr
  cases h
  obtain⟨h1,h2,h3,h4,h5,h6⟩:=pw hr
  have hb2:=b.toNat_lt
  refine⟨by omega,by omega,by rw[db];omega,?_,fun e=>h5 (by omega),fun e=>by omega⟩
  rw[Nat.pow_succ]
  have:2^8=256:=rfl
  omega
theorem nQ: ∀{f:Nat} {s:Str} {m k l:Nat},dE f s=some (m,k,l)→(ck m=s.take k↔¬(l=0∧1<k))
 | 0,s,m,k,l,h=>by rw[dE]at h;cases h
 | f+1,[],m,k,l,h=>by rw[dE]at h;cases h
 | f + 1,b::r,m,k,l,h=>by
  rw[dE]at h
  split at h
  rename_i hb
  cases h
  rw[fF hb]
  simp
  rename_i hb
  split at h
  cases h
  rename_i m' k' l' hr
  cases h
  obtain⟨h1,h2,h3,h4,h5,h6⟩:=pw hr
  have ih:=nQ hr
  have hb2:=b.toNat_lt
  have h256:2^8=256:=rfl
  rw[List.take_succ_cons]
  by_cases hm:m'=0
  subst hm
  have hl:=h5 Z
  rw[fF (by omega)]
  constructor
  intro e
  have:=congrArg List.length e
  rw[db,db,List.length_take,List.length_nil]at this
  omega
  intro e;exact absurd ⟨hl,by omega⟩ e
  rw[m1 (by omega)]
  have e1:(b.toNat-128+128*m')/128=m':=by omega
  have e2:UInt8.ofNat ((b.toNat-128+128*m')%128+128)=b:=by
   have:(b.toNat-128+128*m')%128+128=b.toNat:=by omega
   rw[this,UInt8.ofNat_toNat]
  rw[e1,e2,List.cons.injEq,ih]
  simp only[true_and]
  constructor
  rintro e ⟨e3,e4⟩
  refine e ⟨e3,?_⟩
  rcases Nat.lt_or_ge 1 k' with h7|h7
  exact h7
  exact absurd (h6 (by omega)) (by omega)
  rintro e ⟨e3,e4⟩
  exact e ⟨e3,by omega⟩
def yy(s:Str):Option (Int×Nat):=match dE 8 s with
  | none=>none
  | some (m,k,l)=>if iv (oO m)=true∧¬(l=0∧1<k)then some (oO m,k)else none
def gN(s:Str)(a:Nat):(Int×Nat)×Bool:=match yy (s.drop a)with
  | none=>((0,0),false)
  | some (n,k)=>((n,a+k),true)
theorem nA{s:Str}{a:Nat}(h:a≤s.length):(gN s a).1.2≤s.length:=by
 unfold gN
 cases h2:yy (s.drop a)with
 | none=>exact ca _
 | some x=>
  obtain⟨n,k⟩:=x
  unfold yy at h2
  split at h2
  cases h2
  rename_i m k' l hr
  split at h2
  cases h2
  have:=(pw hr).2.2.1
  rw[List.length_drop]at this
  show a+k≤_;omega
  cases h2
def gT(s:Str)(a:Nat):(Str×Nat)×Bool:=
  if(gN s a).2=true∧0≤(gN s a).1.1∧(gN s a).1.1≤40000∧(gN s a).1.1≤(s.length:Int)-((gN s a).1.2:Int)then((((s.drop (gN s a).1.2).take (gN s a).1.1.toNat),(gN s a).1.2+(gN s a).1.1.toNat),true)else(([],0),false)
theorem lL{s:Str}{a:Nat}(h:a≤s.length):(gT s a).1.2≤s.length∧(gT s a).1.1.length≤s.length∧(gT s a).1.1.length≤40000:=by
 have:=nA h
 unfold gT
 split
 rename_i h2
 refine⟨?_,?_,?_⟩
 show _+_≤_;omega
 show(List.take _ _).length≤_;rw[List.length_take,List.length_drop];omega
 show(List.take _ _).length≤_;rw[List.length_take];omega
 exact⟨ca _,ca _,ca _⟩
def iZ(s:Str)(a j m u:Nat):Option (Nat×Nat×Nat):=match dE (8-j) (s.drop (a+j))with
  | none=>none
  | some (m',k,l)=>some (m+u*m',k+j,l)
theorem tq{s:Str}{a:Nat}:iZ s a 0 0 1=dE 8 (s.drop a):=by
 unfold iZ
 rw[Nat.add_zero]
 cases dE (8-0) (s.drop a)with
 | none=>rfl
 | some x=>obtain⟨m,k,l⟩:=x;simp
theorem vt{s:Str}{a j m u:Nat}(hj:j<8)(hi:a+j<s.length)(hb:128≤(s.getD (a+j) 0).toNat):iZ s a j m u=iZ s a (j+1) (m+((s.getD (a+j) 0).toNat%128)*u) (u*128):=by
 have h256:2^8=256:=rfl
 have hb2:=(s.getD (a+j) 0).toNat_lt
 unfold iZ
 rw[show 8-j=(8-(j+1))+1 by omega,List.drop_eq_getElem_cons hi,show a+(j+1)=a+j+1 by omega,dE]
 have hg:s[a+j]=s.getD (a+j) 0:=by rw[List.getD_eq_getElem?_getD,List.getElem?_eq_getElem hi];rfl
 rw[hg,if_neg (by omega)]
 cases dE (8-(j+1)) (s.drop (a+j+1))with
 | none=>rfl
 | some x=>
  obtain⟨m',k,l⟩:=x
  have e:(s.getD (a+j) 0).toNat%128=(s.getD (a+j) 0).toNat-128:=by omega
  simp only[e,ef,Prod.mk.injEq,and_true]
  refine⟨?_,by omega⟩
  rw[Nat.mul_add,Nat.mul_comm u ((s.getD (a+j) 0).toNat-128),Nat.mul_assoc u 128 m']
  omega
theorem qU{s:Str}{a j m u:Nat}(hj:j<8)(hi:a+j<s.length)(hb:(s.getD (a+j) 0).toNat<128):iZ s a j m u=some (m+((s.getD (a+j) 0).toNat%128)*u,1+j,(s.getD (a+j) 0).toNat):=by
 unfold iZ
 rw[show 8-j=(8-(j+1))+1 by omega,List.drop_eq_getElem_cons hi,dE]
 have hg:s[a+j]=s.getD (a+j) 0:=by rw[List.getD_eq_getElem?_getD,List.getElem?_eq_getElem hi];rfl
 rw[hg,if_pos hb,Nat.mod_eq_of_lt hb,Nat.mul_comm]
theorem qT{s:Str}{a j m u:Nat}(h: ¬(j<8∧a+j<s.length)):iZ s a j m u=none:=by
 unfold iZ
 by_cases hj:j<8
 rw[List.drop_eq_nil_of_le (by omega),show 8-j=(8-(j+1))+1 by omega,dE]
 rw[show 8-j=0 by omega,dE]
theorem wF{s:Str}{a:Nat}(h:dE 8 (s.drop a)=none):gN s a=((0,0),false):=by
 unfold gN yy;rw[h]
theorem sM{s:Str}{a m k l:Nat}(h:dE 8 (s.drop a)=some (m,k,l)):gN s a=if iv (oO m)=true∧¬(l=0∧1<k)then((oO m,a+k),true)else((0,0),false):=by
 unfold gN yy
 rw[h]
 simp only
 by_cases h2:iv (oO m)=true∧¬(l=0∧1<k)
 rw[if_pos h2,if_pos h2]
 rw[if_neg h2,if_neg h2]
theorem pH{s:Str}{a m k l:Nat}(h:dE 8 (s.drop a)=some (m,k,l)):gN s a=if iv (oO m)=true∧ck (r9 (oO m))=(s.drop a).take k then((oO m,a+k),true)else((0,0),false):=by
 rw[sM h,uW]
 simp only[nQ h]
end Go.Al
/- Packages that are read from bytes, in plain Lean. -/
namespace Go.Al
variable{L:Nat}(h1:4096≤L)(h2:L≤1073741824)
open Go.Lib
def er (s : Str):Nat→Nat→Option (List (List Nd))
  | 0,_=>some []
  | n + 1,a=>if(gT s a).2=true then match rP (gT s a).1.1 with
      | none=>none
      | some p=>match er s n (gT s a).1.2 with
        | none=>none
        | some ps=>some (p::ps)
    else none
def w7(s:Str):Option (Str×An×Nat×Nat):=
  if (gT s 0).2=true∧(gT s (gT s 0).1.2).2=true∧(gN s (gT s (gT s 0).1.2).1.2).2=true∧0≤(gN s (gT s (gT s 0).1.2).1.2).1.1∧(gN s (gT s (gT s 0).1.2).1.2).1.1≤60 then
    match fV (gT s (gT s 0).1.2).1.1 with
    | none=>none
    | some a=>some ((gT s 0).1.1,a,(gN s (gT s (gT s 0).1.2).1.2).1.1.toNat,(gN s (gT s (gT s 0).1.2).1.2).1.2)
  else none
def rdK(s:Str):Option Pk:=match w7 s with
  | none=>none
  | some (nm,a,n,k)=>match er s n k with
    | none=>none
    | some ps=>if pkB ⟨nm,a,ps⟩=true∧(fR ⟨nm,a,ps⟩).length≤40000∧fR ⟨nm,a,ps⟩=s then some ⟨nm,a,ps⟩else none
def pk0:Pk:=⟨[],nq,[]⟩
def my:Option Pk→Pk×Bool
  | none=>(pk0,false)
  | some p=>(p,true)
theorem qS{s:Str}{n a:Nat}(h:(gT s a).2=false):er s (n+1) a=none:=by
 rw[er,if_neg (by rw[h];decide)]
theorem nL{s:Str}{n a:Nat}(h:(gT s a).2=true)(h2:rP (gT s a).1.1=none):er s (n+1) a=none:=by
 rw[er,if_pos h,h2]
theorem vo{s:Str}{n a:Nat}{p:List Nd}(h:(gT s a).2=true)(h2:rP (gT s a).1.1=some p):er s (n+1) a=match er s n (gT s a).1.2 with
    | none=>none
    | some ps=>some (p::ps):=by
  rw[er,if_pos h,h2]
def pre?(acc:List (List Nd)):Option (List (List Nd))→Option (List (List Nd))
  | none=>none
  | some ps=>some (acc++ps)
theorem wv{x:Option (List (List Nd))}:pre? [] x=x:=by cases x<;>rfl
theorem tw{s:Str}{n a:Nat}{p:List Nd}{acc:List (List Nd)}(h:(gT s a).2=true)(h2:rP (gT s a).1.1=some p):pre? acc (er s (n+1) a)=pre? (acc++[p]) (er s n (gT s a).1.2):=by
 rw[vo h h2]
 cases er s n (gT s a).1.2 with
 | none=>rfl
 | some ps=>simp[pre?]
theorem wt{s nm:Str}{a:An}{n k:Nat}(h:w7 s=some (nm,a,n,k)):rdK s=match er s n k with
    | none=>none
    | some ps=>if pkB ⟨nm,a,ps⟩=true∧(fR ⟨nm,a,ps⟩).length≤40000∧fR ⟨nm,a,ps⟩=s then some ⟨nm,a,ps⟩else none:=by
  unfold rdK;rw[h]
theorem kA{s:Str}(h:w7 s=none):rdK s=none:=by unfold rdK;rw[h]
theorem ki{s nm:Str}{a:An}{n k:Nat}(h:w7 s=some (nm,a,n,k))(h2:er s n k=none):rdK s=none:=by rw[wt h,h2]
theorem mJ{s nm:Str}{a:An}{n k:Nat}{ps:List (List Nd)}(h:w7 s=some (nm,a,n,k))(h2:er s n k=some ps):rdK s=if pkB ⟨nm,a,ps⟩=true∧(fR ⟨nm,a,ps⟩).length≤40000∧fR ⟨nm,a,ps⟩=s then some ⟨nm,a,ps⟩else none:=by rw[wt h,h2]
section
variable{s nm tx:Str}{a1 a2 a3:Nat}{o1 o2 o3:Bool}{c:Int}
theorem tI(h1:gT s 0=((nm,a1),o1))(h2:gT s a1=((tx,a2),o2))(h3:gN s a2=((c,a3),o3)):w7 s=if o1=true∧o2=true∧o3=true∧0≤c∧c≤60 then(match fV tx with
    | none=>none
    | some a=>some (nm,a,c.toNat,a3))else none:=by
  unfold w7
  rw[h1];simp only[h2,h3]
end
theorem rdK_valid{s:Str}{p:Pk}(h:rdK s=some p):pkB p=true:=by
 unfold rdK at h
 split at h
 cases h
 split at h
 cases h
 split at h
 rename_i h2;cases h;exact h2.1
 cases h
set_option maxHeartbeats 8000000
theorem ww{j:Nat}(h:j≤8):128^j≤72057594037927936:=Nat.pow_le_pow_right (by decide) h
theorem wx{j:Nat}(h:j≤7):128^j≤562949953421312:=Nat.pow_le_pow_right (by decide) h
theorem sJ(m:Nat):(-(m:Int)).tdiv 2= -((m/2:Nat):Int):=by rw[Int.neg_tdiv];rfl
theorem xq{n:Int}(h:iv n=true):r9 n≤2000000000000000:=by
 unfold iv cQ at h
 simp only[bK,decide_eq_true_eq]at h
 unfold r9
 split<;>omega
theorem vW{n:Int}(h:iv n=true): -1000000000000000≤n∧n≤1000000000000000:=by
 unfold iv cQ at h
 simpa using h
abbrev AT(r:(Int×Nat)×Bool):A:=.tup [eI r.1.1,eI (r.1.2:Nat),eB r.2]
abbrev AS(r:(Str×Nat)×Bool):A:=.tup [aS8 r.1.1,eI (r.1.2:Nat),eB r.2]
theorem n5{s:Str}{a j m u e:Nat}(hj:j<8)(hi:a+j<s.length)(hb:128≤(s.getD (a+j) 0).toNat)(he:e=(s.getD (a+j) 0).toNat%128*u)(hu:u=128^j)(hm:m<128^j)(hr:iZ s a j m u=dE 8 (s.drop a)) :
    u*128=128^(j+1)∧m+e<128^(j+1)∧iZ s a (j+1) (m+e) (u*128)=dE 8 (s.drop a):=by
 refine⟨by rw[hu,Nat.pow_succ],?_,by rw[he,←vt hj hi hb];exact hr⟩
 have h1:(s.getD (a+j) 0).toNat%128*u≤127*u:=Nat.mul_le_mul_right _ (by omega)
 rw[←he]at h1
 rw[Nat.pow_succ,←hu]
 rw[←hu]at hm
 omega
variable{n:Int}
theorem xY(hn:iv n=true):MQ h1 h2 32 [eI n] [] (Plain (aS8 (ck (r9 n)))):=by
 refine au ?_ Z
 refine jB 29 h1 h2 Tryz.func32 Z fun O hF=>?_
 obtain⟨hn1,hn2⟩:=vW hn
 have hzl:=xq hn
 obtain⟨zz,hZ⟩: ∃zz,zz=r9 n:=⟨_,rfl⟩
 rw[←hZ]at hzl ⊢
 have hpl:=cJ (m:=zz) (by omega)
 refine ae (js Z (be (js Z (aa (ax O Z Z (by omega) (by omega)) Z (js Z (jf [3,2,0] Z (jn (ag (ae (ac Z (jn (bl ⟨[(3,eI (zz:Nat))],[]⟩ ?_ ?_))))))))))))
 refine ak Z (fun z8=>?_) (fun z8=>?_)
 refine ab (js Z ?_)
 first|refine ji Z ?_|refine aU Z Z ?_
 first|refine ji Z ?_|refine aU Z Z ?_
 refine js Z (jf [3,7,2,0] Z (jn ?_))
 exact⟨Z,Ent.to ⟨congrArg (fun z=>some (eI z)) (by rw[hZ];unfold r9;rw[if_pos (bc z8)];have:=bc z8;omega),ao⟩ Z⟩
 refine af ?_
 exact⟨Z,Ent.to ⟨congrArg (fun z=>some (eI z)) (by rw[hZ];unfold r9;rw[if_neg (bw z8)];have:=bw z8;omega),ao⟩ Z⟩
 refine ae (js Z (jn (ag (am (av (X:=Str×Nat) (fun z=>⟨[(3,eI (z.2:Nat)),(4,.c (.rs 900 0 z.1.length))],[(900,.row false 1 (oX z.1))]⟩) (fun z=>z.1++ck z.2=ck zz∧z.2≤zz) (fun z=>z.2) ([],zz) ((df 4 900 1 false Z Z).trans (Ent.to (e':=[(3,_),(4,_)]) ⟨Z,Z,ao⟩ Z)) ?_ (fun z hi=>?_))))))
 exact⟨Z,bQ _⟩
 refine ag (ae (ac Z (jn (ak Z (fun z13=>?_) (fun z13=>?_)))))
 refine af (ag (am (ab (ac Z ?_))))
 have hz:128≤z.2:=by have:=bc z13;omega
 have hzl:z.1.length≤10:=by have h:=congrArg List.length hi.1;rw[bP]at h;omega
 refine aa ((cG O Z Z Z Z (by decide) (by rw[cE];omega) (by rw[cE];omega)).cast (v':=eI ((z.2%128:Nat):Int)) (congrArg eI (cE z.2))) Z (aa ((Val.conv (b:=true) (dt:=.int .i64) O Z Z Z (by kernel_rfl) (by kernel_rfl)).cast (v':=.c (.d (.int .u8 ((z.2%128:Nat):Int)))) (by rw[ox (by omega)])) Z (aa ((bU (k:=.u8) (n:=((z.2%128:Nat):Int)+128) O Z Z (by show(0:Int)≤_;omega) (by show _≤(255:Int);omega)).cast (v':=.c (.d (.int .u8 ((e7 z.2).toNat:Int)))) (by rw[kL])) Z (jf [20,16,13,12,3,4] Z (aY (bL O Z Z Z Z Z Z Z Z Z Z Z) Z (aB ?_)))))
 refine jf [21,16,13,12,3,4] Z (aY (cZ (own:=false) (xs:=oX z.1) (ys:=[[.int .u8 (((e7 z.2)).toNat:Int)]]) (zs:=oX (z.1++[(e7 z.2)])) (n:=(z.1++[(e7 z.2)]).length) O Z (.row Z (bd _).symm) (.whole Z Z (.inr ⟨Z,Z⟩)) (by simp) Z (by simp;omega) (by simp;omega) (by simp) (by simp)) Z (aB ?_))
 refine aB ?_
 refine js Z (jf [4,13,12,3] Z (jn (ab (js Z (aa ((dI O Z Z Z Z (by decide) (by rw[du];omega) (by rw[du];omega)).cast (v':=eI ((z.2/128:Nat):Int)) (congrArg eI (du z.2))) Z (js Z (jf [3,4,13,12] Z (jn ?_))))))))
 refine⟨(z.1++[(e7 z.2)],z.2/128),((aC [22] (e':=[(3,_),(4,_)]) Z Z ⟨Z,Z,ao⟩ Z).trans (aL 22 900 Z Z)).trans (Ent.to ⟨Z,Z,ao⟩ Z),⟨?_,by show z.2/128≤zz;omega⟩,by show z.2/128<z.2;omega⟩
 show(z.1++[(e7 z.2)])++ck (z.2/128)=ck zz
 rw[←hi.1,jq hz];simp
 refine aJ (ae (ac Z ?_))
 have hz:z.2<128:=by have:=bw z13;omega
 have hzl:z.1.length≤10:=by have h:=congrArg List.length hi.1;rw[bP]at h;omega
 have hlast:=hi.1
 rw[fF hz]at hlast
 refine aa ((Val.conv (b:=true) (dt:=.int .i64) O Z Z Z (by kernel_rfl) (by kernel_rfl)).cast (v':=.c (.d (.int .u8 ((UInt8.ofNat z.2).toNat:Int)))) (by rw[fE (by omega) (by omega),UInt8.toNat_ofNat'];exact congrArg (fun n:Int=>A.c (.d (.int .u8 n))) (by omega))) Z (jf [25,23,13,12,3,4] Z (aY (bL O Z Z Z Z Z Z Z Z Z Z Z) Z (aB ?_)))
 refine jf [26,23,13,12,3,4] Z (aY (cZ (own:=false) (xs:=oX z.1) (ys:=[[.int .u8 (((UInt8.ofNat z.2)).toNat:Int)]]) (zs:=oX (z.1++[(UInt8.ofNat z.2)])) (n:=(z.1++[(UInt8.ofNat z.2)]).length) O Z (.row Z (bd _).symm) (.whole Z Z (.inr ⟨Z,Z⟩)) (by simp) Z (by simp;omega) (by simp;omega) (by simp) (by simp)) Z (aB ?_))
 refine aB ?_
 refine aa (eF (p:=z.1++[UInt8.ofNat z.2]) O Z Z Z (.whole Z (by simp) (.inl (f7 _))) Z Z (by kernel_rfl) (by kernel_rfl)) Z (js Z (jf [2,13,12,3,4] Z (jr ?_)))
 refine ay Z ?_
 rw[←hlast]
theorem wL:MQ h1 h2 31 [eI n] [] (Plain (eB (iv n))):=by
 refine au ?_ Z
 refine jB 5 h1 h2 Tryz.func31 Z fun O hF=>?_
 refine ae (js Z (be (js Z (jf [3,2] Z (aO Z (iu (x:=n) (lo:= -1000000000000000) (hi:=1000000000000000) h1 h2) 5000 Z (js Z (jf [2] Z (jr ?_))))))))
 refine ay Z ?_
 rfl
theorem xX:MQ h1 h2 119 [eI n] [] (Plain (eB (iv n))):=by
 refine au ?_ Z
 refine jB 5 h1 h2 Tryz.func119 Z fun O hF=>?_
 refine ae (js Z (be (js Z (jf [3,2] Z (aO Z (lI (x:=n) (lo:= -1000000000000000) (hi:=1000000000000000) h1 h2) 5000 Z (js Z (jf [2] Z (jr ?_))))))))
 refine ay Z ?_
 rfl
variable{a:Nat}
theorem wM{s:Str}(ha:a≤s.length)(hs:s.length≤1048576):MQ h1 h2 11 [aS8 s,eI (a:Nat)] [] (Plain (AT (gN s a))):=by
 refine MC.data (jB 70 h1 h2 Tryz.func11 Z fun O hF=>?_)
 have hl:s.length≤L:=by have h:=hF;simp[As.fact,A.fact,M.fact,D.fact,Ds.fact,bS_size]at h;exact h.1
 refine ae (aF Z (jn (ag (ae (ac Z (aa (aI (p:=s) O Z Z Z Z Z Z Z Z Z) Z (jf [13,11,6,5,4,0,1] Z (aO Z (mC (n:=(s.length:Int)) h1 h2) 15000 Z (jf [14,11,6,5,4,0,1] Z (aO Z (iu (x:=(a:Int)) (lo:=0) (hi:=(s.length:Int)) h1 h2) 16000 Z (js Z (jf [16,6,5,4,0,1] Z (jn (ak Z (fun z16=>?_) (fun z16=>?_)))))))))))))))
 ·
  skip
  exact absurd z16 (by unfold cQ;simp;omega)
 ·
  skip
  refine af (ae (ac Z (jn (ag (ae (ac Z (jf [9,8,7,6,5,4,0,1] Z (jn (am (av (X:=Nat×Nat×Nat) (fun z=>⟨[(0,aS8 s),(1,eI (a:Nat)),(7,eI (z.2.1:Nat)),(8,eI (z.2.2:Nat)),(9,eI ((a+z.1:Nat):Int))],[]⟩) (fun z=>z.1≤8∧a+z.1≤s.length∧z.2.2=128^z.1∧z.2.1<128^z.1∧iZ s a z.1 z.2.1 z.2.2=dE 8 (s.drop a)) (fun z=>8-z.1) (0,0,1) (Ent.to ⟨Z,Z,Z,Z,Z,ao⟩ Z) ?_ (fun z hi=>?_)))))))))))
  ·
   exact⟨by decide,ha,Z,by decide,tq⟩
  refine ag (ae (ac Z (aa (aI (p:=s) O Z Z Z Z Z Z Z Z Z) Z (jf [20,18,0,1,7,8,9] Z (aO Z (mC (n:=(s.length:Int)) h1 h2) 22000 Z (ac Z (jf [23,0,1,7,8,9] Z (ar 4 Z Z Z (fun hx=>aq hx Z (aq hx Z (bf hx (vF Z) Z (aq hx Z (AN.nil))))) Z Z ?_))))))))
  first|refine aa (aj O Z Z Z Z Z) Z ?_|refine aa (al O Z Z Z Z Z) Z ?_|refine aa (Val.pickB O Z Z Z Z Z) Z ?_
  refine jf [28,0,1,7,8,9] Z (jn (ak Z (fun z28=>?_) (fun z28=>?_)))
  ·
   skip
   refine af (ag (am (ae (aF Z ?_))))
   have hcc:=jg.1 z28
   have hz0:a+z.1<s.length:=by have:=hcc.1;omega
   have hj8:z.1<8:=by have:=bc hcc.2;omega
   have hpw:=ww (j:=z.1) (by omega)
   have hub:z.2.2≤72057594037927936:=by rw[hi.2.2.1];exact hpw
   have hu2:z.2.2≤562949953421312:=by rw[hi.2.2.1];exact wx (by omega)
   have hmb:z.2.1<z.2.2:=by rw[hi.2.2.1];exact hi.2.2.2.1
   have hbt:=(s.getD (a+z.1) 0).toNat_lt
   have h256:2^8=256:=rfl
   obtain⟨d,hd⟩: ∃d,d=(s.getD (a+z.1) 0).toNat%128:=⟨_,rfl⟩
   obtain⟨e,he0⟩: ∃e,e=d*z.2.2:=⟨_,rfl⟩
   have he:e=(s.getD (a+z.1) 0).toNat%128*z.2.2:=by rw[he0,hd]
   have hdm:(d:Int)*(z.2.2:Int)=(e:Int):=by rw[he0];exact(Int.natCast_mul _ _).symm
   have hde:e≤127*z.2.2:=by rw[he];exact Nat.mul_le_mul_right _ (by omega)
   refine aa (aA (p:=s) (b:=s.getD (a+z.1) 0) O Z Z Z Z Z Z Z (by omega) (aX hz0)) Z (aa ((bU (k:=.u8) (n:=(((s.getD (a+z.1) 0).toNat:Nat):Int).tmod 128) O Z Z (by rw[cE];show(0:Int)≤_;omega) (by rw[cE];show _≤(255:Int);omega)).cast (v':=.c (.d (.int .u8 (d:Int)))) (by rw[cE,hd])) Z (aa ((Val.conv (b:=true) (dt:=.int .u8) O Z Z Z (by kernel_rfl) (by kernel_rfl)).cast (v':=eI ((d:Nat):Int)) (by rw[cq .i64 _ (by show(-9223372036854775808:Int)≤_;omega) (by show _≤(9223372036854775807:Int);omega)])) Z (js Z (aa ((ax O Z Z (by rw[hdm];omega) (by rw[hdm];omega)).cast (v':=eI (e:Nat)) (congrArg eI hdm)) Z (aa (ax O Z Z (by omega) (by omega)) Z (js Z (jf [7,28,0,1,8,9] Z (be (js Z (aa (ax O Z Z (by omega) (by omega)) Z (js Z (jf [8,7,28,0,1,9] Z (jn (ag (ae (ac Z (aa (aA (p:=s) (b:=s.getD (a+z.1) 0) O Z Z Z Z Z Z Z (by omega) (aX hz0)) Z (js Z (jf [45,8,7,28,0,1,9] Z (jn (ak Z (fun z45=>?_) (fun z45=>?_))))))))))))))))))))))
   ·
    skip
    refine aJ (ab ?_)
    have hb128:128≤(s.getD (a+z.1) 0).toNat:=by have:=bc z45;omega
    refine js Z ?_
    first|refine ji Z ?_|refine aU Z Z ?_
    refine js Z (jf [9,45,8,7,28,0,1] Z (jn ?_))
    have hns:=n5 (e:=e) hj8 hz0 hb128 he hi.2.2.1 hi.2.2.2.1 hi.2.2.2.2
    refine⟨(z.1+1,z.2.1+e,z.2.2*128),Ent.to ⟨Z,Z,Z,Z,Z,ao⟩ Z,⟨by show z.1+1≤8;omega,by show a+(z.1+1)≤_;omega,hns.1,hns.2.1,hns.2.2⟩,by show 8-(z.1+1)<8-z.1;omega⟩
   ·
    skip
    refine af (ae (js Z ?_))
    have hb128:(s.getD (a+z.1) 0).toNat<128:=by have:=bw z45;omega
    have hdb:d=(s.getD (a+z.1) 0).toNat:=by rw[hd];omega
    have hr:dE 8 (s.drop a)=some ((z.2.1+e),1+z.1,(s.getD (a+z.1) 0).toNat):=by rw[←hi.2.2.2.2,qU hj8 hz0 hb128,←he]
    refine aa ((dI O Z Z Z Z (by decide) (by show(-9223372036854775808:Int)≤(((z.2.1+e)/2:Nat):Int);omega) (by show(((z.2.1+e)/2:Nat):Int)≤_;omega)).cast (v':=eI (((z.2.1+e)/2:Nat):Int)) Z) Z (js Z (jf [10,45,8,7,28,0,1,9] Z (jn (ag (ae (js Z (aa ((cG O Z Z Z Z (by decide) (by show(-9223372036854775808:Int)≤(((z.2.1+e)%2:Nat):Int);omega) (by show(((z.2.1+e)%2:Nat):Int)≤_;omega)).cast (v':=eI (((z.2.1+e)%2:Nat):Int)) Z) Z (js Z (jf [50,10,45,8,7,28,0,1,9] Z (jn ?_))))))))))
    obtain⟨N,hN⟩: ∃N,N=oO (z.2.1+e):=⟨_,rfl⟩
    refine bl ⟨[(0,aS8 s),(1,eI (a:Nat)),(9,eI ((a+z.1:Nat):Int)),(10,eI N)],[]⟩ ?_ ?_
    ·
     skip
     refine ak Z (fun z50=>?_) (fun z50=>?_)
     ·
      skip
      refine ab (js Z (aa (ax O Z Z (by omega) (by omega)) Z (aa (ax O Z Z (by omega) (by omega)) Z (js Z (jf [10,50,45,8,7,28,0,1,9] Z (jn ?_))))))
      exact⟨Z,Ent.to ⟨Z,Z,Z,congrArg (fun z=>some (eI z)) (show _=N by rw[hN];unfold oO;rw[if_pos (by have:=bc z50;omega)];all_goals omega),ao⟩ Z⟩
     ·
      skip
      refine af ?_
      exact⟨Z,Ent.to ⟨Z,Z,Z,congrArg (fun z=>some (eI z)) (show _=N by rw[hN];unfold oO;rw[if_neg (by have:=bw z50;omega)]),ao⟩ Z⟩
    refine ag (ag ?_)
    cases hb13:!iv N with
    | true=>
     refine uH [_,_,_,_,_,_,_,_,_,_,_,_,_] [bC,pe [0] 0,pn [0,1] 1 1,pn [0,1,2] 1 1,pn (rg 0 4) 0 1,pn (rg 0 5) 0 1,pn (rg 0 4) 0 1,pn (rg 0 4) 0 1,pn (rg 0 4) 0 1,pn [0,1,2,3,8] 0 1,pn (rg 0 4++rg 6 4) 0 1,pn (rg 0 11) 0 1,pn (rg 0 12) 1 1] [1] [_,_] (kc Z (ai (fY (aP O (B0:=56000) Z Z Z Z (wL (n:=N) h1 h2) (ah Z) Z Z Z Z Z)) (ai ((V Z).cast (v':=eB true) (congrArg eB hb13)) (kc Z (ai ⟨Z,Z⟩ (ai ⟨Z,Z⟩ (ai ⟨Z,Z⟩ (ai ⟨Z,Z⟩ (ai ⟨Z,Z⟩ (ai ⟨Z,Z⟩ (ai ⟨Z,Z⟩ (ai ⟨Z,Z⟩ (ai (cU O Z Z Z Z Z) trivial))))))))))))) ?_
     refine jw [66,0,1,9,10] Z (nv ?_)
     refine ak Z (fun z66=>?_) (fun z66=>?_)
     ·
      skip
      refine ae (aF Z (jr ?_))
      refine ay Z ?_
      rw[pH hr,if_neg (fun h=>by have h9:(!iv N)=true:=hb13;rw[hN,h.1]at h9;cases h9)]
      exact .tup (.cons (.c .d) (.cons (.c .d) (.cons (.c .d) .nil)))
     ·
      skip
      exact absurd z66 (by decide)
    | false=>
     have hbN:iv N=true:=by simpa using hb13
     refine uH [_,_,_,_,_,_,_,_,_,_,_,_,_] [bC,pe [0] 0,pn [0,1] 1 1,pn [0,1,2] 1 1,pn (rg 0 4) 1 1,pe (rg 0 5) 1,pn (rg 0 4) 1 2,pn (rg 0 4) 1 2,pn (rg 0 4) 1 2,pn [0,1,2,3,8] 1 2,pn (rg 0 4++rg 6 4) 1 2,pn (rg 0 11) 2 2,pn (rg 0 12) 2 2] [1,5] [_,_,_] (kc Z (ai (fY (aP O (B0:=56000) Z Z Z Z (wL (n:=N) h1 h2) (ah Z) Z Z Z Z Z)) (ai ((V Z).cast (v':=eB false) (congrArg eB hb13)) (kc Z (kc Z (ai (fY (aP O (B0:=60000) Z Z Z Z (xY (n:=N) h1 h2 hbN) (ah Z) Z Z Z Z Z)) (ai (kc Z (V Z)) (ai (kc Z (V Z)) (ai (kc Z (V Z)) (ai (ai (ax O Z Z (by omega) (by omega)) (ax O Z Z (by omega) (by omega))) (ai (ai ((bn (p:=s) (a:=a) (b:=a+z.1+1) O Z Z Z Z Z Z Z Z Z Z (by omega) (by omega)).cast (v':=aS8 ((s.drop a).take (1+z.1))) (by rw[show a+z.1+1-a=1+z.1 by omega])) ((bn (p:=s) (a:=a) (b:=a+z.1+1) O Z Z Z Z Z Z Z Z Z Z (by omega) (by omega)).cast (v':=aS8 ((s.drop a).take (1+z.1))) (by rw[show a+z.1+1-a=1+z.1 by omega]))) (ai (b9 (p:=ck (r9 N)) (q:=(s.drop a).take (1+z.1)) O Z Z Z Z Z Z) (ai (bm O Z Z Z Z Z) trivial))))))))))))) ?_
     refine jw [66,0,1,9,10] Z (nv ?_)
     refine ak Z (fun z66=>?_) (fun z66=>?_)
     ·
      skip
      refine ae (aF Z (jr ?_))
      refine ay Z ?_
      have h9:=bw (show decide (ck (r9 N)=(s.drop a).take (1+z.1))=false by simpa using z66)
      rw[pH hr,if_neg (fun h=>h9 (by rw[hN];exact h.2))]
      exact .tup (.cons (.c .d) (.cons (.c .d) (.cons (.c .d) .nil)))
     ·
      skip
      refine af (ae (ac Z ?_))
      first|refine ji Z ?_|refine aU Z Z ?_
      refine aF Z (jf [6,5,4,66,0,1,9,10] Z (jr ?_))
      refine ay Z ?_
      have h9:=bc (show decide (ck (r9 N)=(s.drop a).take (1+z.1))=true by simpa using z66)
      rw[pH hr,if_pos ⟨by rw[←hN];exact hbN,by rw[←hN];exact h9⟩,←hN]
      rw[show a+(1+z.1)=a+z.1+1 by omega]
      exact .tup (.cons (.c .d) (.cons (.c .d) (.cons (.c .d) .nil)))
  ·
   skip
   refine aJ (ae (aF Z (jr ?_)))
   refine ay Z ?_
   have hr:=hi.2.2.2.2
   have hno2:=dB z28 jg
   rw[qT (fun h=>hno2 ⟨by omega,decide_eq_true (by omega)⟩)]at hr
   rw[wF hr.symm]
   exact .tup (.cons (.c .d) (.cons (.c .d) (.cons (.c .d) .nil)))
set_option maxHeartbeats 8000000
theorem wE{s:Str}{a:Nat}{n:Int}{k:Nat}{o:Bool}(h:gN s a=((n,k),o))(h2: ¬(o=true∧0≤n∧n≤40000∧n≤(s.length:Int)-(k:Int))):gT s a=(([],0),false):=by
 unfold gT;rw[h];exact if_neg h2
theorem tJ{s:Str}{a n k:Nat}{o:Bool}(h:gN s a=(((n:Int),k),o))(h1:o=true)(h2:n≤40000)(h3:k+n≤s.length):gT s a=(((s.drop k).take n,k+n),true):=by
 unfold gT;rw[h]
 exact(if_pos ⟨h1,by show(0:Int)≤(n:Int);omega,by show(n:Int)≤40000;omega,by show(n:Int)≤(s.length:Int)-(k:Int);omega⟩).trans (by simp)
theorem gtb{l:Nat}{n:Int}{k:Nat}{o:Bool}(hc:(bif !o then true else !cQ 0 (min 40000 ((l:Int)-(k:Int))) n)=true): ¬(o=true∧0≤n∧n≤40000∧n≤(l:Int)-(k:Int)):=by
 rintro⟨h1,h2,h3,h4⟩
 rw[h1]at hc
 have h5:cQ 0 (min 40000 ((l:Int)-(k:Int))) n=true:=by unfold cQ;simp;omega
 rw[h5]at hc;cases hc
theorem yD{o b:Bool}(h:(bif !o then true else !b)=false):o=true∧b=true:=by cases o<;>cases b<;>simp_all
theorem Bq{p q:Prop}[Decidable p][Decidable q]{b:Bool}(h:(bif (bif decide p then decide q else false)then true else !b)=true):b=true→(p→¬q)→False:=by
 intro hb hpq
 rw[hb]at h
 by_cases hp:p
 simp[hp,hpq hp]at h
 simp[hp]at h
theorem Bp{p q:Prop}[Decidable p][Decidable q]{b:Bool}(h:(bif (bif decide p then decide q else false)then true else !b)=false):b=true∧(p→¬q):=by
 by_cases hp:p<;>by_cases hq:q<;>cases b<;>simp_all
theorem wJ{s:Str}(ha:a≤s.length)(hs:s.length≤1048576):MQ h1 h2 69 [aS8 s,eI (a:Nat)] [] (Plain (AT (gN s a))):=by
 refine MC.data (jB 68 h1 h2 Tryz.func69 Z fun O hF=>?_)
 have hl:s.length≤L:=by have h:=hF;simp[As.fact,A.fact,M.fact,D.fact,Ds.fact,bS_size]at h;exact h.1
 refine ae (aF Z (be (js Z (be (js Z (jn (ag (ae (ac Z (jn (am (av (X:=Nat×Nat×Nat) (fun z=>⟨[(0,aS8 s),(1,eI (a:Nat)),(7,eI (z.2.1:Nat)),(8,eI (z.2.2:Nat)),(9,eI ((a+z.1:Nat):Int))],[]⟩) (fun z=>z.1≤8∧a+z.1≤s.length∧z.2.2=128^z.1∧z.2.1<128^z.1∧iZ s a z.1 z.2.1 z.2.2=dE 8 (s.drop a)) (fun z=>8-z.1) (0,0,1) (Ent.to ⟨Z,Z,Z,Z,Z,ao⟩ Z) ?_ (fun z hi=>?_)))))))))))))
 ·
  exact⟨by decide,ha,Z,by decide,tq⟩
 refine ag (ae (ac Z (aa (aI (p:=s) O Z Z Z Z Z Z Z Z Z) Z (ac Z (jf [17,0,1,7,8,9] Z (ar 4 Z Z Z (fun hx=>aq hx Z (aq hx Z (bf hx (vF Z) Z (aq hx Z (AN.nil))))) Z Z ?_))))))
 first|refine aa (aj O Z Z Z Z Z) Z ?_|refine aa (al O Z Z Z Z Z) Z ?_|refine aa (Val.pickB O Z Z Z Z Z) Z ?_
 refine jf [22,0,1,7,8,9] Z (jn (ak Z (fun z22=>?_) (fun z22=>?_)))
 ·
  skip
  refine af (ag (am (ae (ac Z ?_))))
  have hcc:=jg.1 z22
  have hz0:a+z.1<s.length:=by have:=hcc.1;omega
  have hj8:z.1<8:=by have:=bc hcc.2;omega
  have hpw:=ww (j:=z.1) (by omega)
  have hub:z.2.2≤72057594037927936:=by rw[hi.2.2.1];exact hpw
  have hu2:z.2.2≤562949953421312:=by rw[hi.2.2.1];exact wx (by omega)
  have hmb:z.2.1<z.2.2:=by rw[hi.2.2.1];exact hi.2.2.2.1
  have hbt:=(s.getD (a+z.1) 0).toNat_lt
  have h256:2^8=256:=rfl
  obtain⟨d,hd⟩: ∃d,d=(s.getD (a+z.1) 0).toNat%128:=⟨_,rfl⟩
  obtain⟨e,he0⟩: ∃e,e=d*z.2.2:=⟨_,rfl⟩
  have he:e=(s.getD (a+z.1) 0).toNat%128*z.2.2:=by rw[he0,hd]
  have hdm:(d:Int)*(z.2.2:Int)=(e:Int):=by rw[he0];exact(Int.natCast_mul _ _).symm
  have hde:e≤127*z.2.2:=by rw[he];exact Nat.mul_le_mul_right _ (by omega)
  refine aa (aA (p:=s) (b:=s.getD (a+z.1) 0) O Z Z Z Z Z Z Z (by omega) (aX hz0)) Z (aa ((Val.conv (b:=true) (dt:=.int .u8) O Z Z Z (by kernel_rfl) (by kernel_rfl)).cast (v':=eI (((s.getD (a+z.1) 0).toNat:Nat):Int)) (by rw[cq .i64 _ (by show(-9223372036854775808:Int)≤_;omega) (by show _≤(9223372036854775807:Int);omega)])) Z (js Z (jf [10,22,0,1,7,8,9] Z (jn (ag (ae (ac Z (jn (ak Z (fun z30=>?_) (fun z30=>?_))))))))))
  ·
   skip
   refine ae (aF Z ?_)
   have hb128:128≤(s.getD (a+z.1) 0).toNat:=by have:=bc z30;omega
   refine aa ((ax O Z Z (by omega) (by omega)).cast (v':=eI (d:Nat)) (congrArg eI (by omega))) Z (aa ((ax O Z Z (by rw[Int.mul_comm,hdm];omega) (by rw[Int.mul_comm,hdm];omega)).cast (v':=eI (e:Nat)) (congrArg eI (by rw[Int.mul_comm,hdm]))) Z (aa (ax O Z Z (by omega) (by omega)) Z (js Z (jf [7,30,29,10,22,0,1,8,9] Z (be (js Z (aa (ax O Z Z (by omega) (by omega)) Z (js Z (jf [8,7,30,29,10,22,0,1,9] Z (jn (aJ (ab (js Z ?_)))))))))))))
   first|refine ji Z ?_|refine aU Z Z ?_
   refine js Z (jf [9,8,7,30,29,10,22,0,1] Z (jn ?_))
   have hns:=n5 (e:=e) hj8 hz0 hb128 he hi.2.2.1 hi.2.2.2.1 hi.2.2.2.2
   refine⟨(z.1+1,z.2.1+e,z.2.2*128),Ent.to ⟨Z,Z,Z,Z,Z,ao⟩ Z,⟨by show z.1+1≤8;omega,by show a+(z.1+1)≤_;omega,hns.1,hns.2.1,hns.2.2⟩,by show 8-(z.1+1)<8-z.1;omega⟩
  ·
   skip
   refine af (ae (aF Z ?_))
   have hb128:(s.getD (a+z.1) 0).toNat<128:=by have:=bw z30;omega
   have hdb:d=(s.getD (a+z.1) 0).toNat:=by rw[hd];omega
   have hr:dE 8 (s.drop a)=some ((z.2.1+e),1+z.1,(s.getD (a+z.1) 0).toNat):=by rw[←hi.2.2.2.2,qU hj8 hz0 hb128,←he]
   have hum:(z.2.2:Int)*(((s.getD (a+z.1) 0).toNat:Nat):Int)=(e:Int):=by rw[←hdb,Int.mul_comm,hdm]
   refine aa ((ax O Z Z (by rw[hum];omega) (by rw[hum];omega)).cast (v':=eI (e:Nat)) (congrArg eI hum)) Z (aa (ax O Z Z (by omega) (by omega)) Z (js Z (jf [7,30,29,10,22,0,1,8,9] Z (be (js Z (aa ((dI O Z Z Z Z (by decide) (by show(-9223372036854775808:Int)≤(((z.2.1+e)/2:Nat):Int);omega) (by show(((z.2.1+e)/2:Nat):Int)≤_;omega)).cast (v':=eI (((z.2.1+e)/2:Nat):Int)) Z) Z (js Z (jf [11,7,30,29,10,22,0,1,8,9] Z (jn (ag (ae (js Z (aa ((cG O Z Z Z Z (by decide) (by show(-9223372036854775808:Int)≤(((z.2.1+e)%2:Nat):Int);omega) (by show(((z.2.1+e)%2:Nat):Int)≤_;omega)).cast (v':=eI (((z.2.1+e)%2:Nat):Int)) Z) Z (js Z (jf [48,11,7,30,29,10,22,0,1,8,9] Z (jn ?_))))))))))))))))
   obtain⟨N,hN⟩: ∃N,N=oO (z.2.1+e):=⟨_,rfl⟩
   refine bl ⟨[(0,aS8 s),(1,eI (a:Nat)),(9,eI ((a+z.1:Nat):Int)),(10,eI (((s.getD (a+z.1) 0).toNat:Nat):Int)),(11,eI N)],[]⟩ ?_ ?_
   ·
    skip
    refine ak Z (fun z48=>?_) (fun z48=>?_)
    ·
     skip
     refine ab (js Z (aa ((ax O Z Z (by omega) (by omega)).cast (v':=eI (-(((z.2.1+e):Nat):Int))) (congrArg eI (by omega))) Z (aa ((dI O Z Z Z Z (by decide) (by rw[sJ];omega) (by rw[sJ];omega)).cast (v':=eI (-(((z.2.1+e)/2:Nat):Int))) (congrArg eI (sJ (z.2.1+e)))) Z (aa (ax O Z Z (by omega) (by omega)) Z (js Z (jf [11,48,7,30,29,10,22,0,1,8,9] Z (jn ?_)))))))
     exact⟨Z,Ent.to ⟨Z,Z,Z,Z,congrArg (fun z=>some (eI z)) (show _=N by rw[hN];unfold oO;rw[if_pos (by have:=bc z48;omega)];all_goals omega),ao⟩ Z⟩
    ·
     skip
     refine af ?_
     exact⟨Z,Ent.to ⟨Z,Z,Z,Z,congrArg (fun z=>some (eI z)) (show _=N by rw[hN];unfold oO;rw[if_neg (by have:=bw z48;omega)]),ao⟩ Z⟩
   refine ag (ae (aF Z (jf [55,0,1,9,10,11] Z (ar 3 Z Z Z (fun hx=>aq hx Z (aq hx Z (aq hx Z (AN.nil)))) Z Z ?_))))
   first|refine aa (aj O Z Z Z Z Z) Z ?_|refine aa (al O Z Z Z Z Z) Z ?_|refine aa (Val.pickB O Z Z Z Z Z) Z ?_
   refine js Z (jf [60,0,1,9,10,11] Z (ar 3 Z Z Z (fun hx=>aq hx Z (bj O hx Z Z Z Z (xX (n:=N) h1 h2) (ah Z) Z Z Z Z Z Z Z (B0:=63000) Z (aq hx Z (AN.nil)))) Z Z ?_))
   first|refine aa (al O Z Z Z Z Z) Z ?_|refine aa (Val.pickB O Z Z Z Z Z) Z ?_|refine aa (aj O Z Z Z Z Z) Z ?_
   refine jf [64,0,1,9,10,11] Z (jn (ak Z (fun z64=>?_) (fun z64=>?_)))
   ·
    skip
    refine ae (aF Z (jr ?_))
    refine ay Z ?_
    have h9:=Bq z64
    rw[sM hr,if_neg (fun h=>h9 (by rw[hN];exact h.1) (fun e1 e2=>h.2 ⟨by omega,by omega⟩))]
    exact .tup (.cons (.c .d) (.cons (.c .d) (.cons (.c .d) .nil)))
   ·
    skip
    refine af (ae (ac Z ?_))
    first|refine ji Z ?_|refine aU Z Z ?_
    refine aF Z (jf [6,5,4,64,0,1,9,10,11] Z (jr ?_))
    refine ay Z ?_
    have h9:=Bp z64
    rw[sM hr,if_pos ⟨by rw[←hN];exact h9.1,fun h=>h9.2 (by omega) (by omega)⟩,←hN]
    rw[show a+(1+z.1)=a+z.1+1 by omega]
    exact .tup (.cons (.c .d) (.cons (.c .d) (.cons (.c .d) .nil)))
 ·
  skip
  refine aJ (ae (aF Z (jr ?_)))
  refine ay Z ?_
  have hr:=hi.2.2.2.2
  have hno2:=dB z22 jg
  rw[qT (fun h=>hno2 ⟨by omega,decide_eq_true (by omega)⟩)]at hr
  rw[wF hr.symm]
  exact .tup (.cons (.c .d) (.cons (.c .d) (.cons (.c .d) .nil)))
theorem wK{s:Str}(ha:a≤s.length):MQ h1 h2 63 [aS8 s,eI (a:Nat)] [] (Plain (eB true)):=by
 refine au ?_ Z
 refine jB 9 h1 h2 Tryz.func63 Z fun O hF=>?_
 have hl:s.length≤L:=by have h:=hF;simp[As.fact,A.fact,M.fact,D.fact,Ds.fact,bS_size]at h;exact h.1
 refine ae (js Z (be (ac Z (aa (aI (p:=s) O Z Z Z Z Z Z Z Z Z) Z (jf [7,5,4] Z (aO Z ((lI (x:=(a:Int)) (lo:=0) (hi:=(s.length:Int)) h1 h2).plain (u:=eB true) (congrArg eB (by simp;omega))) 9000 Z (js Z (jf [4] Z (jr ?_)))))))))
 refine ay Z ?_
 rfl
theorem zB{s:Str}(ha:a≤s.length)(hs:s.length≤1048576):MQ h1 h2 25 [aS8 s,eI (a:Nat)] [] (Plain (AT (gN s a))):=by
 refine MC.data (jB 17 h1 h2 Tryz.func25 Z fun O hF=>?_)
 obtain⟨⟨⟨n,k⟩,o⟩,hg⟩: ∃g,g=gN s a:=⟨_,rfl⟩
 rw[←hg]
 refine ae (aF Z (jn (ag (ae (ac Z (aO Z (wK (s:=s) (a:=a) h1 h2 ha) 10000 Z (js Z (jf [10,6,5,4,0,1] Z (jn (ak Z (fun z10=>?_) (fun z10=>?_)))))))))))
 exact absurd z10 (by decide)
 refine af (ae (ac Z (jf [12,11,6,5,4,0,1] Z (aw O Z Z Z Z ((wJ (s:=s) (a:=a) h1 h2 ha hs).plain (v:=_) (u:=.tup [eI n,eI (k:Nat),eB o]) (by rw[←hg])) (ah Z) Z Z Z Z (B0:=14000) Z Z (aM Z (ac Z (jf [6,5,4,0,1] Z (jr ?_))))))))
 refine ay Z ?_
 exact .tup (.cons (.c .d) (.cons (.c .d) (.cons (.c .d) .nil)))
theorem sO{s:Str}(ha:a≤s.length)(hs:s.length≤1048576):MQ h1 h2 10 [aS8 s,eI (a:Nat)] [] (Plain (AS (gT s a))):=by
 refine MC.data (jB 38 h1 h2 Tryz.func10 Z fun O hF=>?_)
 obtain⟨⟨⟨n,k⟩,o⟩,hg⟩: ∃g,g=gN s a:=⟨_,rfl⟩
 have hkl:k≤s.length:=by have h:=nA ha;rw[←hg]at h;exact h
 have hl:s.length≤L:=by have h:=hF;simp[As.fact,A.fact,M.fact,D.fact,Ds.fact,bS_size]at h;exact h.1
 refine ae (aF Z (be (ac Z (aw O Z Z Z Z ((wM (s:=s) (a:=a) h1 h2 ha hs).plain (v:=_) (u:=.tup [eI n,eI (k:Nat),eB o]) (by rw[←hg])) (ah Z) Z Z Z Z (B0:=13000) Z Z (aM Z (aF Z (jf [8,1,7,6,5,4,0] Z (jn (ag (ae (aF Z (jf [18,1,7,6,5,4,0] Z (ar 9 Z Z Z (fun hx=>aq hx Z (aq hx Z (bf hx (aI (p:=s) O Z Z Z Z Z Z Z Z Z) Z (bj O hx Z Z Z Z (mC (n:=(s.length:Int)) h1 h2) (ah Z) Z Z Z Z Z Z Z (B0:=23000) Z (aq hx Z (bf hx (ax O Z Z (by omega) (by omega)) Z (bf hx ((V Z).cast (v':=eI (min (40000:Int) ((s.length:Int)-(k:Int)))) (congrArg eI (by show(if(s.length:Int)-(k:Int)<40000 then _ else _)=_;omega))) Z (bj O hx Z Z Z Z (iu (x:=n) (lo:=0) (hi:=min (40000:Int) ((s.length:Int)-(k:Int))) h1 h2) (ah Z) Z Z Z Z Z Z Z (B0:=27000) Z (aq hx Z (AN.nil)))))))))) Z Z ?_)))))))))))))
 first|refine aa (al O Z Z Z Z Z) Z ?_|refine aa (Val.pickB O Z Z Z Z Z) Z ?_|refine aa (aj O Z Z Z Z Z) Z ?_
 refine jf [28,1,7,6,5,4,0] Z (jn (ak Z (fun z28=>?_) (fun z28=>?_)))
 refine ae (aF Z (jr ?_))
 refine ay Z ?_
 rw[wE hg.symm (gtb z28)]
 exact .tup (.cons (.c .d) (.cons (.c .d) (.cons (.c .d) .nil)))
 refine af (ae ?_)
 obtain⟨ho,hb⟩:=yD z28
 unfold cQ at hb
 simp only[bK,decide_eq_true_eq]at hb
 obtain⟨n2,rfl⟩: ∃n2:Nat,n=(n2:Int):=⟨n.toNat,by omega⟩
 have hgt:=tJ hg.symm ho (by omega) (by omega)
 refine aM Z (aa (ax O Z Z (by omega) (by omega)) Z (aa ((bn (p:=s) (a:=k) (b:=k+n2) O Z Z Z Z Z Z Z Z Z Z (by omega) (by omega)).cast (v':=aS8 ((s.drop k).take n2)) (by rw[show k+n2-k=n2 by omega])) Z (ac Z (aa (ax O Z Z (by omega) (by omega)) Z (aF Z (jf [6,5,4,1,7,0] Z (jr ?_)))))))
 refine ay Z ?_
 rw[hgt]
 exact .tup (.cons (.c .d) (.cons (.c .d) (.cons (.c .d) .nil)))
theorem Bo{o b:Bool}{p:Prop}[Decidable p](h:(bif (bif !o then true else !b)then true else decide p)=true):o=true→b=true→¬p→False:=by
 intro h1 h2 h3;rw[h1,h2]at h;simp[h3]at h
theorem Bn{o b:Bool}{p:Prop}[Decidable p](h:(bif (bif !o then true else !b)then true else decide p)=false):o=true∧b=true∧¬p:=by
 by_cases hp:p<;>cases o<;>cases b<;>simp_all
theorem zA{s:Str}(ha:a≤s.length)(hs:s.length≤1048576):MQ h1 h2 64 [aS8 s,eI (a:Nat)] [] (Plain (AS (gT s a))):=by
 refine MC.data (jB 41 h1 h2 Tryz.func64 Z fun O hF=>?_)
 obtain⟨⟨⟨n,k⟩,o⟩,hg⟩: ∃g,g=gN s a:=⟨_,rfl⟩
 have hkl:k≤s.length:=by have h:=nA ha;rw[←hg]at h;exact h
 have hl:s.length≤L:=by have h:=hF;simp[As.fact,A.fact,M.fact,D.fact,Ds.fact,bS_size]at h;exact h.1
 refine ae (aF Z (be (ac Z (jf [12,11,6,5,4,0] Z (aw O Z Z Z Z ((wJ (s:=s) (a:=a) h1 h2 ha hs).plain (v:=_) (u:=.tup [eI n,eI (k:Nat),eB o]) (by rw[←hg])) (ah Z) Z Z Z Z (B0:=14000) Z Z (aM Z (aF Z (jf [9,8,7,6,5,4,0] Z (jn (ag (ae (aF Z (jf [19,8,7,6,5,4,0] Z (ar 3 Z Z Z (fun hx=>aq hx Z (bj O hx Z Z Z Z (lI (x:=n) (lo:=0) (hi:=40000) h1 h2) (ah Z) Z Z Z Z Z Z Z (B0:=22000) Z (aq hx Z (AN.nil)))) Z Z ?_))))))))))))))
 first|refine aa (al O Z Z Z Z Z) Z ?_|refine aa (Val.pickB O Z Z Z Z Z) Z ?_|refine aa (aj O Z Z Z Z Z) Z ?_
 refine js Z (jf [24,8,7,6,5,4,0] Z (ar 6 Z Z Z (fun hx=>aq hx Z (aq hx Z (bf hx (aI (p:=s) O Z Z Z Z Z Z Z Z Z) Z (aq hx Z (bf hx (ax O Z Z (by omega) (by omega)) Z (aq hx Z (AN.nil))))))) Z Z ?_))
 first|refine aa (al O Z Z Z Z Z) Z ?_|refine aa (Val.pickB O Z Z Z Z Z) Z ?_|refine aa (aj O Z Z Z Z Z) Z ?_
 refine jf [31,8,7,6,5,4,0] Z (jn (ak Z (fun z31=>?_) (fun z31=>?_)))
 refine ae (aF Z (jr ?_))
 refine ay Z ?_
 rw[wE hg.symm (fun h=>Bo z31 h.1 (by simp;omega) (by omega))]
 exact .tup (.cons (.c .d) (.cons (.c .d) (.cons (.c .d) .nil)))
 refine af (ae ?_)
 have hcn:=Bn z31
 simp only[bK,decide_eq_true_eq]at hcn
 obtain⟨ho,hb,hb2⟩:=hcn
 obtain⟨n2,rfl⟩: ∃n2:Nat,n=(n2:Int):=⟨n.toNat,by omega⟩
 have hgt:=tJ hg.symm ho (by omega) (by omega)
 refine aM Z (aa (ax O Z Z (by omega) (by omega)) Z (aa ((bn (p:=s) (a:=k) (b:=k+n2) O Z Z Z Z Z Z Z Z Z Z (by omega) (by omega)).cast (v':=aS8 ((s.drop k).take n2)) (by rw[show k+n2-k=n2 by omega])) Z (ac Z (aa (ax O Z Z (by omega) (by omega)) Z (aF Z (jf [6,5,4,8,7,0] Z (jr ?_)))))))
 refine ay Z ?_
 rw[hgt]
 exact .tup (.cons (.c .d) (.cons (.c .d) (.cons (.c .d) .nil)))
theorem sN{s:Str}(ha:a≤s.length)(hs:s.length≤1048576):MQ h1 h2 23 [aS8 s,eI (a:Nat)] [] (Plain (AS (gT s a))):=by
 refine MC.data (jB 17 h1 h2 Tryz.func23 Z fun O hF=>?_)
 obtain⟨⟨⟨n,k⟩,o⟩,hg⟩: ∃g,g=gT s a:=⟨_,rfl⟩
 rw[←hg]
 refine ae (aF Z (jn (ag (ae (ac Z (aO Z (wK (s:=s) (a:=a) h1 h2 ha) 10000 Z (js Z (jf [10,6,5,4,0,1] Z (jn (ak Z (fun z10=>?_) (fun z10=>?_)))))))))))
 exact absurd z10 (by decide)
 refine af (ae (ac Z (jf [12,11,6,5,4,0,1] Z (aw O Z Z Z Z ((zA (s:=s) (a:=a) h1 h2 ha hs).plain (v:=_) (u:=.tup [aS8 n,eI (k:Nat),eB o]) (by rw[←hg])) (ah Z) Z Z Z Z (B0:=14000) Z Z (aM Z (ac Z (jf [6,5,4,0,1] Z (jr ?_))))))))
 refine ay Z ?_
 exact .tup (.cons (.c .d) (.cons (.c .d) (.cons (.c .d) .nil)))
set_option maxHeartbeats 8000000
abbrev yI(p:Pk):A:=.agg [.d (sD p.nm),.rs 0 0 p.an.pre.length,.rs 1 0 p.an.post.length,.rs 2 0 p.an.code.length,.rs 3 0 p.an.pts.length,.rs 4 0 p.pf.length]
abbrev Bj(p:Pk):List B:=[cV p.an.pre,cV p.an.post,fj p.an.code,gA p.an.pts,dG p.pf]
theorem Bk{o b:Bool}(h:(bif !o then true else !b)=true): ¬(o=true∧b=true):=by cases o<;>cases b<;>simp_all
theorem BW{c:Int}:cQ 0 60 c=true↔0≤c∧c≤60:=by unfold cQ;simp
theorem zj{p q:Prop}[Decidable p][Decidable q](h:(bif !decide p then true else !decide q)=true): ¬(p∧q):=by by_cases hp:p<;>by_cases hq:q<;>simp_all
theorem xK{p q:Prop}[Decidable p][Decidable q](h:(bif !decide p then true else !decide q)=false):p∧q:=by by_cases hp:p<;>by_cases hq:q<;>simp_all
theorem mL{acc:List (List Nd)}{x y:Option (List (List Nd))}(h:pre? acc x=y)(hx:x=none):y=none:=by rw[←h,hx];rfl
theorem c1469{s:Str}(hL:1048576<L)(hs:s.length≤1048576):MQ h1 h2 5 [aS8 s] [] (Rows (.tup [yI (my (rdK s)).1,eB (my (rdK s)).2]) (Bj (my (rdK s)).1)):=by
 refine cK (jB 108 h1 h2 Tryz.func5 Z fun O hF=>?_)
 have hl:s.length≤L:=by omega
 obtain⟨⟨⟨nm,a1⟩,o1⟩,g1⟩: ∃g,g=gT s 0:=⟨_,rfl⟩
 have b1:=lL (s:=s) (a:=0) (ca _)
 rw[←g1]at b1
 obtain⟨⟨⟨tx,a2⟩,o2⟩,g2⟩: ∃g,g=gT s a1:=⟨_,rfl⟩
 have b2:=lL (s:=s) (a:=a1) b1.1
 rw[←g2]at b2
 obtain⟨⟨⟨c,a3⟩,o3⟩,g3⟩: ∃g,g=gN s a2:=⟨_,rfl⟩
 have b3:=nA (s:=s) (a:=a2) b2.1
 rw[←g3]at b3
 obtain⟨b11,b12,b13⟩:=b1
 obtain⟨b21,b22,b23⟩:=b2
 simp only at b11 b12 b13 b21 b22 b23 b3
 have hhd:=tI (s:=s) g1.symm g2.symm g3.symm
 refine ae (jl Z (aB ?_))
 refine js Z (be (js Z (aw O Z Z Z Z ((sO (s:=s) (a:=0) h1 h2 (ca _) hs).plain (v:=_) (u:=.tup [aS8 nm,eI (a1:Nat),eB o1]) (by rw[←g1])) (ah Z) Z Z Z Z (B0:=19000) Z Z (aM Z (aF Z (jf [6,5,4,3,2,0] Z (jn (ag (ae (ac Z (jn (ak Z (fun z23=>?_) (fun z23=>?_)))))))))))))
 refine ae (js Z (jf [24,22,6,5,4,3,2,0] Z (jo Z (aB ?_))))
 refine js Z (jr ?_)
 have hno:rdK s=none:=kA (by rw[hhd,if_neg (fun h=>by rw[h.1]at z23;cases z23)])
 rw[hno]
 refine⟨.inl Z,_,((ap 2 911 2 true 1 Z Z Z).trans ((ap 2 912 2 true 2 Z Z Z).trans ((ap 2 913 2 true 3 Z Z Z).trans ((ap 2 914 2 true 4 Z Z Z).trans (ap 2 915 1 true 5 Z Z Z))))),_,Z,[911,912,913,914,915],by decide,Z,Z,Z⟩
 refine af (ae (ac Z (jf [27,26,22,6,5,4,3,2,0] Z (aw O Z Z Z Z ((sO (s:=s) (a:=a1) h1 h2 b11 hs).plain (v:=_) (u:=.tup [aS8 tx,eI (a2:Nat),eB o2]) (by rw[←g2])) (ah Z) Z Z Z Z (B0:=29000) Z Z (aM Z (aF Z (jf [6,5,7,22,4,3,2,0] Z (jn (ag (ae (ac Z (jn (ak Z (fun z33=>?_) (fun z33=>?_))))))))))))))
 refine ae (js Z (jf [34,32,6,5,7,22,4,3,2,0] Z (jo Z (aB ?_))))
 refine js Z (jr ?_)
 have hno:rdK s=none:=kA (by rw[hhd,if_neg (fun h=>by rw[h.2.1]at z33;cases z33)])
 rw[hno]
 refine⟨.inl Z,_,((ap 2 911 2 true 1 Z Z Z).trans ((ap 2 912 2 true 2 Z Z Z).trans ((ap 2 913 2 true 3 Z Z Z).trans ((ap 2 914 2 true 4 Z Z Z).trans (ap 2 915 1 true 5 Z Z Z))))),_,Z,[911,912,913,914,915],by decide,Z,Z,Z⟩
 refine af (ae (ac Z (jf [37,36,32,6,5,7,22,4,3,2,0] Z (aw O Z Z Z Z ((wM (s:=s) (a:=a2) h1 h2 b21 hs).plain (v:=_) (u:=.tup [eI c,eI (a3:Nat),eB o3]) (by rw[←g3])) (ah Z) Z Z Z Z (B0:=39000) Z Z (aM Z (aF Z (jf [6,5,8,32,7,22,4,3,2,0] Z (jn (ag (ae (aF Z (jf [44,6,5,8,32,7,22,4,3,2,0] Z (ar 3 Z Z Z (fun hx=>aq hx Z (bj O hx Z Z Z Z (iu (x:=c) (lo:=0) (hi:=60) h1 h2) (ah Z) Z Z Z Z Z Z Z (B0:=47000) Z (aq hx Z (AN.nil)))) Z Z ?_)))))))))))))
 first|refine aa (al O Z Z Z Z Z) Z ?_|refine aa (Val.pickB O Z Z Z Z Z) Z ?_|refine aa (aj O Z Z Z Z Z) Z ?_
 refine jf [48,6,5,8,32,7,22,4,3,2,0] Z (jn (ak Z (fun z48=>?_) (fun z48=>?_)))
 refine ae (js Z (jf [49,6,5,8,32,7,22,4,3,2,0] Z (jo Z (aB ?_))))
 refine js Z (jr ?_)
 have hno:rdK s=none:=kA (by rw[hhd,if_neg (fun h=>Bk z48 ⟨h.2.2.1,BW.2 h.2.2.2⟩)])
 rw[hno]
 refine⟨.inl Z,_,((ap 2 911 2 true 1 Z Z Z).trans ((ap 2 912 2 true 2 Z Z Z).trans ((ap 2 913 2 true 3 Z Z Z).trans ((ap 2 914 2 true 4 Z Z Z).trans (ap 2 915 1 true 5 Z Z Z))))),_,Z,[911,912,913,914,915],by decide,Z,Z,Z⟩
 refine af (ae ?_)
 have z60:=yD z48
 have hci:=BW.1 z60.2
 have ho1:o1=true:=by simpa using z23
 have ho2:o2=true:=by simpa using z33
 rw[if_pos ⟨ho1,ho2,z60.1,hci.1,hci.2⟩]at hhd
 obtain⟨n0,rfl⟩: ∃n0:Nat,c=(n0:Int):=⟨c.toNat,by omega⟩
 have hn60:n0≤60:=by omega
 refine ac Z (jf [51,6,5,8,32,7,22,3,2,0] Z (jl Z (aB ?_)))
 refine jo Z (aB ?_)
 refine be (js Z (jf [53,9,51,6,5,8,32,22,3,2,0] Z ?_))
 obtain⟨r,hr⟩: ∃r,r=ku (fV tx):=⟨_,rfl⟩
 have hT:MC Tryz.prog L 13 [aS8 tx] [] (Rows (.tup [uS r.1,eB r.2]) (xo r.1)):=by rw[hr];exact zH (t:=tx) h1 h2 hL (by omega)
 refine bk O (B0:=55000) Z Z Z Z hT (ah Z) Z Z Z Z Z Z (aB ?_)
 refine aM Z (jf [57,56,55,9,51,6,5,8,32,22,3,2,0] Z (jo Z (aB ?_)))
 refine js Z (jf [6,9,51,5,8,32,22,3,2,0] Z (jn (ag (ae (ac Z (jn (ak Z (fun z59=>?_) (fun z59=>?_))))))))
 refine ae (js Z (jf [60,58,6,9,51,5,8,32,22,3,2,0] Z (jo Z (aB ?_))))
 refine js Z (jr ?_)
 have ha:fV tx=none:=by
  cases h:fV tx with
  | none=>rfl
  | some a=>rw[hr,h]at z59;exact oY z59
 rw[ha]at hhd
 have hno:rdK s=none:=kA hhd
 rw[hno]
 refine⟨.inl Z,_,((ap 2 911 2 true 1 Z Z Z).trans ((ap 2 912 2 true 2 Z Z Z).trans ((ap 2 913 2 true 3 Z Z Z).trans ((ap 2 914 2 true 4 Z Z Z).trans (ap 2 915 1 true 5 Z Z Z))))),_,Z,[911,912,913,914,915],by decide,Z,Z,Z⟩
 refine af (ag (am ?_))
 obtain⟨a,ha⟩: ∃a,fV tx=some a:=by
  cases h:fV tx with
  | none=>rw[hr,h]at z59;exact yC z59
  | some a=>exact⟨a,Z⟩
 have hra:r.1=a:=by rw[hr,ha];rfl
 rw[ha]at hhd
 simp only[Int.toNat_natCast]at hhd
 rw[hra]
 refine av (X:=Nat×Nat×List (List Nd)) (fun z=>⟨[(0,aS8 s),(2,.c (.pt 2 0 0)),(5,eI (z.2.1:Nat)),(8,eI (z.1:Nat)),(9,.c (.pt 9 0 0))],[(2,.box [.d (sD []),.d .nils,.d .nils,.d .nils,.d .nils,.d .nils]),(9,.box [.d (sD nm),.rs 901 0 a.pre.length,.rs 902 0 a.post.length,.rs 903 0 a.code.length,.rs 904 0 a.pts.length,.rs 905 0 z.2.2.length]),(901,cV a.pre),(902,cV a.post),(903,fj a.code),(904,gA a.pts),(905,dG z.2.2)]⟩) (fun z=>z.2.1≤s.length∧z.2.2.length+z.1≤60∧pre? z.2.2 (er s z.1 z.2.1)=er s n0 a3) (fun z=>z.1) (n0,a3,[]) ((ap 9 905 1 true 5 Z Z Z).trans ((((((aC [2,9,55000,55001,55002,55003,905] (e':=[(0,_),(2,_),(5,_),(8,_),(9,_)]) Z Z ⟨Z,Z,Z,Z,Z,ao⟩ Z).trans (aL 55000 901 Z Z)).trans (aL 55001 902 Z Z)).trans (aL 55002 903 Z Z)).trans (aL 55003 904 Z Z)).trans (Ent.to ⟨Z,Z,Z,Z,Z,ao⟩ Z))) ?_ (fun z hi=>?_)
 exact⟨b3,by show 0+n0≤60;omega,wv⟩
 refine ag (ae (ac Z (jn (ak Z (fun z62=>?_) (fun z62=>?_)))))
 refine af (ag (am (ae ?_)))
 obtain⟨m,hm⟩: ∃m,z.1=m+1:=⟨z.1-1,by have:=bc z62;omega⟩
 obtain⟨⟨⟨t2,k2⟩,o⟩,g4⟩: ∃g,g=gT s z.2.1:=⟨_,rfl⟩
 have b4:=lL (s:=s) (a:=z.2.1) hi.1
 rw[←g4]at b4
 obtain⟨b41,b42,b43⟩:=b4
 simp only at b41 b42 b43
 have hpr:=hi.2.2
 rw[hm]at hpr
 refine ac Z (aw O Z Z Z Z ((sO (s:=s) (a:=z.2.1) h1 h2 hi.1 hs).plain (v:=_) (u:=.tup [aS8 t2,eI (k2:Nat),eB o]) (by rw[←g4])) (ah Z) Z Z Z Z (B0:=69000) Z Z (aM Z (aF Z (jf [12,11,10,62,61,0,2,5,8,9] Z (jn (ag (ae (ac Z (jn (ak Z (fun z73=>?_) (fun z73=>?_)))))))))))
 refine ae (js Z (jo Z (aB ?_)))
 refine js Z (jr ?_)
 have hno:rdK s=none:=ki hhd (mL hpr (qS (by rw[←g4];simpa using z73)))
 rw[hno]
 refine⟨.inl Z,_,((ap 2 911 2 true 1 Z Z Z).trans ((ap 2 912 2 true 2 Z Z Z).trans ((ap 2 913 2 true 3 Z Z Z).trans ((ap 2 914 2 true 4 Z Z Z).trans (ap 2 915 1 true 5 Z Z Z))))),_,Z,[911,912,913,914,915],by decide,Z,Z,Z⟩
 refine af (ae ?_)
 cases hb76:(rP t2).isSome with
 | true=>
  obtain⟨q,hq⟩: ∃q,rP t2=some q:=Option.isSome_iff_exists.1 hb76
  refine js Z (jf [76,73,72,12,11,62,61,0,2,5,8,9] Z ?_)
  first|refine bk O (B0:=78000) Z Z Z Z (tR (t:=t2) (p:=q) h1 h2 hL (by omega) hq) (ah Z) Z Z Z Z Z Z ?_|refine aw O Z Z Z Z ((wY (t:=t2) h1 h2 hL (by omega)).plain (v:=_) (u:=.tup [dF [],eB false]) (by rw[hq])) (ah Z) Z Z Z Z (B0:=78000) Z Z ?_
  refine aB ?_
  refine aM Z (js Z (jf [12,13,73,72,11,62,61,0,2,5,8,9] Z (jn (ag (ae (ac Z (jn (ak Z (fun z81=>?_) (fun z81=>?_)))))))))
  exact absurd z81 (by decide)
  refine af (ae (aF Z (jf [85,84,81,80,12,73,72,11,62,61,0,2,5,8,9] Z (aK (aC [2,9,901,902,903,904,905,78000] (e':=[(85,_),(84,_),(11,_),(0,_),(2,_),(8,_),(9,_)]) Z Z ⟨Z,Z,Z,Z,Z,Z,Z,ao⟩ Z) (aY (bq (ds:=nr q) O Z Z Z Z Z Z Z Z Z Z (.rs Z (bd _).symm .nil) Z Z Z) Z (aB ?_))))))
  refine aB ?_
  refine jf [86,84,11,0,2,8,9] Z (aY (bI (zs:=(z.2.2++[q]).map nr) (n:=(z.2.2++[q]).length) O Z Z Z Z Z Z Z Z Z Z Z Z Z Z Z Z (.row Z (bd _).symm) Z Z (by decide) Z (by simp;omega) (by simp;omega) (by simp) (by simp)) Z (aB ?_))
  refine aB ?_
  refine js Z (jf [88,87,11,0,2,8,9] Z (jo Z (aB ?_)))
  refine jf [11,0,2,8,9] Z (jn (ab (ac Z (jf [5,0,2,8,9] Z (jn (ab (js Z (aa ((ax O Z Z (by omega) (by omega)).cast (v':=eI (m:Nat)) (congrArg eI (by omega))) Z (js Z (jf [8,5,0,2,9] Z (jn ?_)))))))))))
  refine⟨(m,k2,z.2.2++[q]),((aC [2,9,901,902,903,904,87] (e':=[(0,_),(2,_),(5,_),(8,_),(9,_)]) Z Z ⟨Z,Z,Z,Z,Z,ao⟩ Z).trans (aL 87 905 Z Z)).trans (Ent.to ⟨Z,Z,Z,Z,Z,ao⟩ Z),⟨b41,by have:=hi.2.1;show(z.2.2++[q]).length+m≤60;rw[bP];show z.2.2.length+1+m≤60;omega,?_⟩,by show m<z.1;omega⟩
  have hok:=tw (acc:=z.2.2) (s:=s) (n:=m) (a:=z.2.1) (p:=q) (by rw[←g4];simpa using z73) (by rw[←g4];exact hq)
  rw[←g4]at hok
  rw[←hpr,hok]
 | false=>
  have hq:rP t2=none:=by cases h:rP t2 with
 | none=>rfl
 | some q=>rw[h]at hb76;cases hb76
  refine js Z (jf [76,73,72,12,11,62,61,0,2,5,8,9] Z ?_)
  first|refine bk O (B0:=78000) Z Z Z Z (tR (t:=t2) (p:=q) h1 h2 hL (by omega) hq) (ah Z) Z Z Z Z Z Z ?_|refine aw O Z Z Z Z ((wY (t:=t2) h1 h2 hL (by omega)).plain (v:=_) (u:=.tup [dF [],eB false]) (by rw[hq])) (ah Z) Z Z Z Z (B0:=78000) Z Z ?_
  refine aB ?_
  refine aM Z (js Z (jf [12,13,73,72,11,62,61,0,2,5,8,9] Z (jn (ag (ae (ac Z (jn (ak Z (fun z81=>?_) (fun z81=>?_)))))))))
  ·
   skip
   refine ae (js Z (jo Z (aB ?_)))
   refine js Z (jr ?_)
   have hno:rdK s=none:=ki hhd (mL hpr (nL (by rw[←g4];simpa using z73) (by rw[←g4];exact hq)))
   rw[hno]
   refine⟨.inl Z,_,((ap 2 911 2 true 1 Z Z Z).trans ((ap 2 912 2 true 2 Z Z Z).trans ((ap 2 913 2 true 3 Z Z Z).trans ((ap 2 914 2 true 4 Z Z Z).trans (ap 2 915 1 true 5 Z Z Z))))),_,Z,[911,912,913,914,915],by decide,Z,Z,Z⟩
  ·
   skip
   exact absurd z81 (by decide)
 refine aJ (ag (ae ?_))
 have hz0:z.1=0:=by have:=bw z62;omega
 have hall:=hi.2.2
 rw[hz0]at hall
 have hps:er s n0 a3=some z.2.2:=by rw[←hall];simp[er,pre?]
 have hzl:z.2.2.length≤L:=by have:=hi.2.1;omega
 have hk:=mJ hhd hps
 refine js Z (aZ O Z Z Z Z (Aa (p:=(⟨nm,a,z.2.2⟩:Pk)) h1 h2 hzl) (.cons (.agg (.cons .d (.cons (.whole Z (bd _).symm) (.cons (.whole Z (bd _).symm) (.cons (.whole Z (bd _).symm) (.cons (.whole Z (bd _).symm) (.cons (.whole Z (bd _).symm) .nil))))))) .nil) Z Z Z Z Z (B0:=92000) Z (js Z (jf [92,62,61,0,2,5,8,9] Z (jn (ak Z (fun z92=>?_) (fun z92=>?_))))))
 refine ae (js Z (jo Z (aB ?_)))
 refine js Z (jr ?_)
 rw[hk,if_neg (fun h=>by rw[h.1]at z92;cases z92)]
 refine⟨.inl Z,_,((ap 2 911 2 true 1 Z Z Z).trans ((ap 2 912 2 true 2 Z Z Z).trans ((ap 2 913 2 true 3 Z Z Z).trans ((ap 2 914 2 true 4 Z Z Z).trans (ap 2 915 1 true 5 Z Z Z))))),_,Z,[911,912,913,914,915],by decide,Z,Z,Z⟩
 refine af (ag (ae ?_))
 have hpk:pkB (⟨nm,a,z.2.2⟩:Pk)=true:=by simpa using z92
 refine js Z ?_
 have hPB:MC Tryz.prog L 16 [so (⟨nm,a,z.2.2⟩:Pk)] [] (Rows (.tup [aS8 (fR (⟨nm,a,z.2.2⟩:Pk)),eB (decide ((fR (⟨nm,a,z.2.2⟩:Pk)).length≤40000))]) []):=zZ h1 h2 hpk hL
 refine bk O (B0:=97000) Z Z Z Z hPB (.cons (.agg (.cons .d (.cons (.whole Z (bd _).symm) (.cons (.whole Z (bd _).symm) (.cons (.whole Z (bd _).symm) (.cons (.whole Z (bd _).symm) (.cons (.whole Z (bd _).symm) .nil))))))) .nil) Z Z Z Z Z Z (aB ?_)
 refine aM Z (js Z (jf [15,14,92,62,61,0,2,5,8,9] Z (be (aF Z (jf [101,14,92,62,61,0,2,5,8,9] Z (ar 3 Z Z Z (fun hx=>aq hx Z (aq hx Z (bf hx (b9 (p:=fR (⟨nm,a,z.2.2⟩:Pk)) (q:=s) O Z Z Z Z Z Z) Z (AN.nil)))) Z Z ?_))))))
 first|refine aa (al O Z Z Z Z Z) Z ?_|refine aa (Val.pickB O Z Z Z Z Z) Z ?_|refine aa (aj O Z Z Z Z Z) Z ?_
 refine jf [105,92,62,61,0,2,5,8,9] Z (jn (ak Z (fun z105=>?_) (fun z105=>?_)))
 refine ae (js Z (jo Z (aB ?_)))
 refine js Z (jr ?_)
 rw[hk,if_neg (fun h=>zj z105 h.2)]
 refine⟨.inl Z,_,((ap 2 911 2 true 1 Z Z Z).trans ((ap 2 912 2 true 2 Z Z Z).trans ((ap 2 913 2 true 3 Z Z Z).trans ((ap 2 914 2 true 4 Z Z Z).trans (ap 2 915 1 true 5 Z Z Z))))),_,Z,[911,912,913,914,915],by decide,Z,Z,Z⟩
 refine af (ae (js Z (jo Z (aB ?_))))
 refine js Z (jr ?_)
 rw[hk,if_pos ⟨hpk,xK z105⟩]
 refine⟨.inl Z,_,cY,_,Z,[901,902,903,904,905],by decide,Z,Z,Z⟩
set_option maxHeartbeats 8000000
theorem xV{L:Nat}(h1:4096≤L)(h2:L≤1073741824){t:Str}(hL:1048576<L)(hs:t.length≤1048576):MC Tryz.prog L 24 [aS8 t] [] (Plain (.tup [wb (ku (fV t)).1,eB (ku (fV t)).2])):=(zG h1 h2 hL hs).frozen (.tup (.cons (.agg (.cons (.whole rfl (bd _).symm) (.cons (.whole rfl (bd _).symm) (.cons (.whole rfl (bd _).symm) (.cons (.whole rfl (bd _).symm) .nil))))) (.cons (.c .d) .nil)))
theorem Bm{o1 o2 r o3 b:Bool}(h:(bif (bif (bif (bif !o1 then true else !o2)then true else !r)then true else !o3)then true else !b)=true): ¬(o1=true∧o2=true∧r=true∧o3=true∧b=true):=by
 cases o1<;>cases o2<;>cases r<;>cases o3<;>cases b<;>simp_all
theorem Bl{o1 o2 r o3 b:Bool}(h:(bif (bif (bif (bif !o1 then true else !o2)then true else !r)then true else !o3)then true else !b)=false):o1=true∧o2=true∧r=true∧o3=true∧b=true:=by
 cases o1<;>cases o2<;>cases r<;>cases o3<;>cases b<;>simp_all
theorem Cm{c:Int}:(decide ((0:Int)≤c)&&decide (c≤60))=true↔0≤c∧c≤60:=by simp
theorem ye(r:Option (List Nd)):AR r= .tup [dF (r.getD []),eB r.isSome]:=by cases r<;>rfl
theorem BS{p:Pk}{s w:Str}{ob:Bool}(hv:pkB p=true)(hw:(w,ob)=mD p)(hc:(bif !ob then true else !decide (w=s))=true): ¬((fR p).length≤40000∧fR p=s):=by
 rintro⟨h1,h2⟩
 rw[sX hv h1]at hw
 cases hw
 simp[h2]at hc
theorem BR{p:Pk}{s w:Str}{ob:Bool}(hv:pkB p=true)(hw:(w,ob)=mD p)(hc:(bif !ob then true else !decide (w=s))=false):(fR p).length≤40000∧fR p=s:=by
 by_cases h1:(fR p).length≤40000
 rw[sX hv h1]at hw
 cases hw
 exact⟨h1,by simpa using hc⟩
 rw[wZ hv h1]at hw
 cases hw
 simp at hc
theorem zC{s:Str}(hL:1048576<L)(hs:s.length≤1048576):MQ h1 h2 9 [aS8 s] [] (Plain (.tup [so (my (rdK s)).1,eB (my (rdK s)).2])):=by
 refine MC.data (jB 116 h1 h2 Tryz.func9 Z fun O hF=>?_)
 have hl:s.length≤L:=by omega
 obtain⟨⟨⟨nm,a1⟩,o1⟩,g1⟩: ∃g,g=gT s 0:=⟨_,rfl⟩
 have b1:=lL (s:=s) (a:=0) (ca _)
 rw[←g1]at b1
 obtain⟨⟨⟨tx,a2⟩,o2⟩,g2⟩: ∃g,g=gT s a1:=⟨_,rfl⟩
 have b2:=lL (s:=s) (a:=a1) b1.1
 rw[←g2]at b2
 obtain⟨⟨⟨c,a3⟩,o3⟩,g3⟩: ∃g,g=gN s a2:=⟨_,rfl⟩
 have b3:=nA (s:=s) (a:=a2) b2.1
 rw[←g3]at b3
 obtain⟨b11,b12,b13⟩:=b1
 obtain⟨b21,b22,b23⟩:=b2
 simp only at b11 b12 b13 b21 b22 b23 b3
 have hhd:=tI (s:=s) g1.symm g2.symm g3.symm
 obtain⟨a,ha⟩: ∃a,a=(ku (fV tx)).1:=⟨_,rfl⟩
 obtain⟨oa,hoa⟩: ∃b,b=(ku (fV tx)).2:=⟨_,rfl⟩
 refine ae (jl Z (aB ?_))
 refine js Z (be (js Z (aw O Z Z Z Z ((sN (s:=s) (a:=0) h1 h2 (ca _) hs).plain (v:=_) (u:=.tup [aS8 nm,eI (a1:Nat),eB o1]) (by rw[←g1])) (ah Z) Z Z Z Z (B0:=26000) Z Z (aM Z (aF Z (jf [6,5,4,3,2,0] Z (be (ac Z (jf [31,30,6,4,3,2,0] Z (aw O Z Z Z Z ((sN (s:=s) (a:=a1) h1 h2 b11 hs).plain (v:=_) (u:=.tup [aS8 tx,eI (a2:Nat),eB o2]) (by rw[←g2])) (ah Z) Z Z Z Z (B0:=33000) Z Z (aM Z (aF Z (jf [9,8,7,6,4,3,2,0] Z (be (js Z (jf [37,9,8,6,4,3,2,0] Z (aw O Z Z Z Z ((xV (t:=tx) h1 h2 hL (by omega)).plain (v:=_) (u:=.tup [wb a,eB oa]) (by rw[ha,hoa])) (ah Z) Z Z Z Z (B0:=39000) Z Z (aF Z (jf [40,39,9,8,6,4,3,2,0] Z (jl Z (aB ?_)))))))))))))))))))))
 refine jo Z (aB ?_)
 refine js Z (jf [11,10,9,8,6,4,3,2,0] Z (be (ac Z (jf [43,42,11,10,9,6,4,3,2,0] Z (aw O Z Z Z Z ((zB (s:=s) (a:=a2) h1 h2 b21 hs).plain (v:=_) (u:=.tup [eI c,eI (a3:Nat),eB o3]) (by rw[←g3])) (ah Z) Z Z Z Z (B0:=45000) Z Z (aM Z (aF Z (jf [14,13,12,11,10,9,6,4,3,2,0] Z (jn (ag (ae (aF Z (jf [50,14,13,12,11,10,9,4,3,2,0] Z (ar 2 Z Z Z (fun hx=>aq hx Z (aq hx Z (AN.nil))) Z Z ?_))))))))))))))
 first|refine aa (al O Z Z Z Z Z) Z ?_|refine aa (Val.pickB O Z Z Z Z Z) Z ?_|refine aa (aj O Z Z Z Z Z) Z ?_
 refine js Z (jf [54,14,13,12,11,10,4,3,2,0] Z (ar 2 Z Z Z (fun hx=>aq hx Z (aq hx Z (AN.nil))) Z Z ?_))
 first|refine aa (al O Z Z Z Z Z) Z ?_|refine aa (Val.pickB O Z Z Z Z Z) Z ?_|refine aa (aj O Z Z Z Z Z) Z ?_
 refine js Z (jf [58,14,13,12,10,4,3,2,0] Z (ar 2 Z Z Z (fun hx=>aq hx Z (aq hx Z (AN.nil))) Z Z ?_))
 first|refine aa (al O Z Z Z Z Z) Z ?_|refine aa (Val.pickB O Z Z Z Z Z) Z ?_|refine aa (aj O Z Z Z Z Z) Z ?_
 refine js Z (jf [62,13,12,10,4,3,2,0] Z (ar 3 Z Z Z (fun hx=>aq hx Z (bj O hx Z Z Z Z (lI (x:=c) (lo:=0) (hi:=60) h1 h2) (ah Z) Z Z Z Z Z Z Z (B0:=65000) Z (aq hx Z (AN.nil)))) Z Z ?_))
 first|refine aa (al O Z Z Z Z Z) Z ?_|refine aa (Val.pickB O Z Z Z Z Z) Z ?_|refine aa (aj O Z Z Z Z Z) Z ?_
 refine jf [66,13,12,10,4,3,2,0] Z (jn (ak Z (fun z66=>?_) (fun z66=>?_)))
 refine ae (js Z (jf [67,13,12,10,4,3,2,0] Z (jo Z (aB ?_))))
 refine js Z (jr ?_)
 refine ay Z ?_
 have hno:rdK s=none:=by
  refine kA ?_
  rw[hhd]
  by_cases hp:o1=true∧o2=true∧o3=true∧0≤c∧c≤60
  rw[if_pos hp]
  cases h:fV tx with
  | none=>rfl
  | some b=>exact absurd ⟨hp.1,hp.2.1,by rw[hoa,h];rfl,hp.2.2.1,Cm.2 hp.2.2.2⟩ (Bm z66)
  rw[if_neg hp]
 rw[hno]
 exact .tup (.cons (.agg (.cons .d (.cons .nils (.cons .nils (.cons .nils (.cons .nils (.cons .nils .nil))))))) (.cons (.c .d) .nil))
 refine af (ae ?_)
 have h5:=Bl z66
 have hci:=Cm.1 h5.2.2.2.2
 rw[if_pos ⟨h5.1,h5.2.1,h5.2.2.2.1,hci.1,hci.2⟩]at hhd
 obtain⟨n0,rfl⟩: ∃n0:Nat,c=(n0:Int):=⟨c.toNat,by omega⟩
 have hn60:n0≤60:=by omega
 have hra:fV tx=some a:=by
  cases h:fV tx with
  | none=>rw[h]at hoa;rw[hoa]at h5;exact absurd h5.2.2.1 (by decide)
  | some b=>rw[ha,h];rfl
 rw[hra]at hhd
 simp only[Int.toNat_natCast]at hhd
 refine aF Z (jf [70,13,12,10,3,2,0] Z (jl Z (aB ?_)))
 refine jo Z (aB ?_)
 refine jn (ag (am (av (X:=Nat×Nat×List (List Nd)) (fun z=>⟨[(0,aS8 s),(2,.c (.pt 2 0 0)),(12,eI (z.1:Nat)),(13,eI (z.2.1:Nat)),(15,.c (.pt 15 0 0))],[(2,.box [.d (sD []),.d .nils,.d .nils,.d .nils,.d .nils,.d .nils]),(15,.box [.d (sD nm),.d (qo a.pre),.d (qo a.post),.d (pc a.code),.d (o0 a.pts),.rs 905 0 z.2.2.length]),(905,.row false 1 (z.2.2.map nr))]⟩) (fun z=>z.2.1≤s.length∧z.2.2.length+z.1≤60∧pre? z.2.2 (er s z.1 z.2.1)=er s n0 a3) (fun z=>z.1) (n0,a3,[]) ((ap 15 905 1 false 5 Z Z Z).trans ((aC [2,15,905] (e':=[(0,_),(2,_),(12,_),(13,_),(15,_)]) Z Z ⟨Z,Z,Z,Z,Z,ao⟩ Z).trans (Ent.to ⟨Z,Z,Z,Z,Z,ao⟩ Z))) ?_ (fun z hi=>?_))))
 exact⟨b3,by show 0+n0≤60;omega,wv⟩
 refine ag (ae (ac Z (jn (ak Z (fun z72=>?_) (fun z72=>?_)))))
 refine af (ag (am (ae ?_)))
 obtain⟨m,hm⟩: ∃m,z.1=m+1:=⟨z.1-1,by have:=bc z72;omega⟩
 obtain⟨⟨⟨t2,k2⟩,o⟩,g4⟩: ∃g,g=gT s z.2.1:=⟨_,rfl⟩
 have b4:=lL (s:=s) (a:=z.2.1) hi.1
 rw[←g4]at b4
 obtain⟨b41,b42,b43⟩:=b4
 simp only at b41 b42 b43
 have hpr:=hi.2.2
 rw[hm]at hpr
 obtain⟨q,hq⟩: ∃q,q=(rP t2).getD []:=⟨_,rfl⟩
 obtain⟨ob,hob⟩: ∃b,b=(rP t2).isSome:=⟨_,rfl⟩
 refine ac Z (aw O Z Z Z Z ((sN (s:=s) (a:=z.2.1) h1 h2 hi.1 hs).plain (v:=_) (u:=.tup [aS8 t2,eI (k2:Nat),eB o]) (by rw[←g4])) (ah Z) Z Z Z Z (B0:=79000) Z Z (aM Z (aF Z (jf [18,17,16,72,71,0,2,12,13,15] Z (jn (ag (ae (ac Z (jf [83,17,16,72,71,0,2,12,13,15] Z (jn (ak Z (fun z83=>?_) (fun z83=>?_))))))))))))
 refine ae (js Z (jo Z (aB ?_)))
 refine js Z (jr ?_)
 refine ay Z ?_
 have hno:rdK s=none:=ki hhd (mL hpr (qS (by rw[←g4];simpa using z83)))
 rw[hno]
 exact .tup (.cons (.agg (.cons .d (.cons .nils (.cons .nils (.cons .nils (.cons .nils (.cons .nils .nil))))))) (.cons (.c .d) .nil))
 refine af (ae (js Z (jf [86,83,17,72,71,0,2,12,13,15] Z (aw O Z Z Z Z ((Ai (t:=t2) h1 h2 hL (by omega)).plain (v:=_) (u:=.tup [dF q,eB ob]) (by rw[ye,hq,hob])) (ah Z) Z Z Z Z (B0:=88000) Z Z (aM Z (js Z (jf [20,19,83,17,72,71,0,2,12,13,15] Z (jn (ag (ae (ac Z (jf [91,19,83,17,72,71,0,2,12,13,15] Z (jn (ak Z (fun z91=>?_) (fun z91=>?_)))))))))))))))
 refine ae (js Z (jo Z (aB ?_)))
 refine js Z (jr ?_)
 refine ay Z ?_
 have hqn:rP t2=none:=by
  cases h:rP t2 with
  | none=>rfl
  | some x=>rw[h]at hob;rw[hob]at z91;exact oY z91
 have hno:rdK s=none:=ki hhd (mL hpr (nL (by rw[←g4];simpa using z83) (by rw[←g4];exact hqn)))
 rw[hno]
 exact .tup (.cons (.agg (.cons .d (.cons .nils (.cons .nils (.cons .nils (.cons .nils (.cons .nils .nil))))))) (.cons (.c .d) .nil))
 refine af (ae (aF Z (jf [95,94,91,83,17,72,71,0,2,12,13,15] Z (aY (bL O Z Z Z Z Z Z Z Z Z Z Z) Z (aB ?_)))))
 refine jf [96,94,91,83,17,72,71,0,2,12,13,15] Z (aY (cZ (own:=false) (xs:=z.2.2.map nr) (ys:=[nr q]) (zs:=(z.2.2++[q]).map nr) (n:=(z.2.2++[q]).length) O Z (.row Z (bd _).symm) (.whole Z Z (.inr ⟨Z,Z⟩)) (by simp) Z (by simp;omega) (by simp;omega) (by simp) (by simp)) Z (aB ?_))
 refine aB ?_
 refine js Z (jf [98,97,91,83,17,72,71,0,2,12,13,15] Z (jo Z (aB ?_)))
 refine jf [91,83,17,72,71,0,2,12,13,15] Z (jn (ab (ac Z (jf [13,91,83,72,71,0,2,12,15] Z (jn (ab (js Z (aa ((ax O Z Z (by omega) (by omega)).cast (v':=eI (m:Nat)) (congrArg eI (by omega))) Z (js Z (jf [12,13,91,83,72,71,0,2,15] Z (jn ?_)))))))))))
 refine⟨(m,k2,z.2.2++[q]),((aC [2,15,97] (e':=[(0,_),(2,_),(12,_),(13,_),(15,_)]) Z Z ⟨Z,Z,Z,Z,Z,ao⟩ Z).trans (aL 97 905 Z Z)).trans (Ent.to ⟨Z,Z,Z,Z,Z,ao⟩ Z),⟨b41,by have:=hi.2.1;show(z.2.2++[q]).length+m≤60;rw[bP];show z.2.2.length+1+m≤60;omega,?_⟩,by show m<z.1;omega⟩
 have hqs:rP t2=some q:=by
  cases h:rP t2 with
  | none=>rw[h]at hob;rw[hob]at z91;exact yC z91
  | some x=>rw[hq,h];rfl
 have hok:=tw (acc:=z.2.2) (s:=s) (n:=m) (a:=z.2.1) (p:=q) (by rw[←g4];simpa using z83) (by rw[←g4];exact hqs)
 rw[←g4]at hok
 rw[←hpr,hok]
 refine aJ (ag (ae ?_))
 have hz0:z.1=0:=by have:=bw z72;omega
 have hall:=hi.2.2
 rw[hz0]at hall
 have hps:er s n0 a3=some z.2.2:=by rw[←hall];simp[er,pre?]
 have hzl:z.2.2.length≤L:=by have:=hi.2.1;omega
 refine aZ O Z Z Z Z (Ac (p:=(⟨nm,a,z.2.2⟩:Pk)) h1 h2 hzl) (.cons (.c (.pb (cs:=(⟨nm,a,z.2.2⟩:Pk).cells) Z (.cons .d (.cons .d (.cons .d (.cons .d (.cons .d (.cons (.whole Z (bd _).symm) .nil)))))))) .nil) Z Z Z Z Z (B0:=101000) Z (js Z (jn (ak Z (fun z101=>?_) (fun z101=>?_))))
 refine ae (js Z (jo Z (aB ?_)))
 refine js Z (jr ?_)
 refine ay Z ?_
 rw[mJ hhd hps,if_neg (fun h=>by rw[h.1]at z101;cases z101)]
 exact .tup (.cons (.agg (.cons .d (.cons .nils (.cons .nils (.cons .nils (.cons .nils (.cons .nils .nil))))))) (.cons (.c .d) .nil))
 refine af (ae ?_)
 have hpk:pkB (⟨nm,a,z.2.2⟩:Pk)=true:=by simpa using z101
 obtain⟨⟨w,ob⟩,hw⟩: ∃x,x=mD (⟨nm,a,z.2.2⟩:Pk):=⟨_,rfl⟩
 have hPB:MC Tryz.prog L 29 [ptr (⟨nm,a,z.2.2⟩:Pk).cells] [] (Rows (.tup [aS8 w,eB ob]) []):=by have h:=Ab h1 h2 hpk hL;unfold AC at h;rw[←hw]at h;exact h
 refine bk O (B0:=105000) Z Z Z Z hPB (.cons (.c (.pb (cs:=(⟨nm,a,z.2.2⟩:Pk).cells) Z (.cons .d (.cons .d (.cons .d (.cons .d (.cons .d (.cons (.whole Z (bd _).symm) .nil)))))))) .nil) Z Z Z Z Z Z (aB ?_)
 refine aM Z (js Z (jf [22,21,101,100,72,71,0,2,12,13,15] Z (jn (ag (ae (aF Z (jf [109,21,101,100,72,71,0,2,12,13,15] Z (ar 3 Z Z Z (fun hx=>aq hx Z (aq hx Z (bf hx (b9 (p:=w) (q:=s) O Z Z Z Z Z Z) Z (AN.nil)))) Z Z ?_))))))))
 first|refine aa (al O Z Z Z Z Z) Z ?_|refine aa (Val.pickB O Z Z Z Z Z) Z ?_|refine aa (aj O Z Z Z Z Z) Z ?_
 refine jf [113,101,100,72,71,0,2,12,13,15] Z (jn (ak Z (fun z113=>?_) (fun z113=>?_)))
 refine ae (js Z (jo Z (aB ?_)))
 refine js Z (jr ?_)
 refine ay Z ?_
 rw[mJ hhd hps,if_neg (fun h=>BS hpk hw z113 h.2)]
 exact .tup (.cons (.agg (.cons .d (.cons .nils (.cons .nils (.cons .nils (.cons .nils (.cons .nils .nil))))))) (.cons (.c .d) .nil))
 refine af (ae (js Z (jo Z (aB ?_))))
 refine js Z (jr ?_)
 refine ay Z ?_
 rw[mJ hhd hps,if_pos ⟨hpk,BR hpk hw z113⟩]
 exact .tup (.cons (.agg (.cons .d (.cons .d (.cons .d (.cons .d (.cons .d (.cons (.whole Z (bd _).symm) .nil))))))) (.cons (.c .d) .nil))
end Go.Al
