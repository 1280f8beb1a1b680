/- Code and its cells: what is valid; what is drawn from bytes. -/
import Derived.Test.YtdjlfclghdofoaaGreatDoorD
import Derived.Test.YtdjlfclghdofoaaGreatDoorC
set_option linter.unusedVariables false
set_option linter.unusedSimpArgs false
set_option maxRecDepth 10000
set_option maxHeartbeats 4000000
open Go.Proofs
namespace Go.Al
variable{L:Nat}(h1:4096≤L)(h2:L≤1073741824)
structure In where
  op:Int
  a:Int
  deriving Inhabited,DecidableEq
abbrev In.cells(x:In):List D:=[.int .i64 x.op,.int .i64 x.a]
abbrev uB(c:List In):D:=.slc 2 (c.map In.cells)
abbrev aJ(c:List In):A:=.c (.d (uB c))
abbrev ij(c:List In):B:=.row true 2 (c.map In.cells)
structure Pt where
  k:Int
  fs:List Tm
  deriving Inhabited,DecidableEq
structure An where
  pre:List Tm
  post:List Tm
  code:List In
  pts:List Pt
  deriving Inhabited,DecidableEq
def aw(x:In):Bool:=
  if x.op=0∨x.op=4 then gx x.a else if x.op=1∨x.op=2 then bU 0 3 x.a else if x.op=5∨x.op=6 then bU 0 79 x.a else if x.op=9 then bU 0 3 x.a
  else if x.op=3∨x.op=7∨x.op=8∨x.op=10∨x.op=11 then decide (x.a=0)else false
def bm(c:List In):Bool:=c.all aw&&bU 1 80 c.length
def ii(x:In):Bool:=decide (x.op=5)||decide (x.op=6)
def uy(ps:List Pt)(k:Int):Bool:=ps.any fun p=>decide (p.k=k)
def sV(c:List In)(k:Int):Bool:=c.any fun x=>ii x&&decide (x.a=k)
def plB(c:List In)(ps:List Pt)(k:Int):Bool:=sV c k||uy ps k
def rO(pl:Int→Bool):Nat→List In→List In
  | _,[]=>[]
  | k,x::r=>if pl (k:Int)=true then[]else x::rO pl (k+1) r
def sgt(c:List In)(ps:List Pt)(k:Nat):List In:=match c.drop k with
  | []=>[]
  | x::r=>x::rO (plB c ps) (k+1) r
def ky:List Int→List In→Bool
  | [],_=>true
  | _::_,[]=>false
  | o::os,x::s=>decide (x.op=o)&&ky os s
def n8(x:In):Bool:=decide (x.op=1)||decide (x.op=3)||decide (x.op=7)
def sP(s:List In):Nat×List In:=
  let x:=s.getD 0 default
  let y:=s.getD 1 default
  if ky [0,4] s=true∧gx (x.a*y.a)=true then(2,[⟨0,x.a*y.a⟩])
  else if ky [0,0,3] s=true∧gx (x.a+y.a)=true then(3,[⟨0,x.a+y.a⟩])
  else if ky [0,1,3] s=true∧x.a=0 then(3,[y])
  else if ky [0,1,4,3] s=true∧x.a=0 then(4,[y,s.getD 2 default])
  else if(n8 x=true∨x.op=4)∧ky [x.op,0,3] s=true∧y.a=0 then(3,[x])
  else if n8 x=true∧ky [x.op,4] s=true∧y.a=1 then(2,[x])
  else if ky [4,4] s=true∧gx (x.a*y.a)=true then(2,[⟨4,x.a*y.a⟩])
  else(0,[])
def uw(k less:Int)(x:In):In:=if ii x=true∧k<x.a then⟨x.op,x.a-less⟩else x
def sPt(k less:Int)(p:Pt):Pt:=if k<p.k then⟨p.k-less,p.fs⟩else p
def uv(a:An)(k n:Nat)(by':List In):An:=
  ⟨a.pre,a.post,(a.code.take k++by'++a.code.drop (k+n)).map (uw k ((n:Int)-by'.length)),a.pts.map (sPt k ((n:Int)-by'.length))⟩
abbrev me(a:An)(k:Nat):Nat×List In:=sP (sgt a.code a.pts k)
def qj(a:An):Nat→Nat→Option An
  | 0,_=>none
  | f+1,k=>if 0<(me a k).1 then some (uv a k (me a k).1 (me a k).2)else qj a f (k+1)
def sY(a:An):Option An:=qj a a.code.length 0
def qr:Nat→An→An
  | 0,a=>a
  | f + 1,a=>match sY a with
    | none=>a
    | some b=>qr f b
def ml(a:An):An:=qr a.code.length a
structure AOk(a:An):Prop where
  code: ∀x∈a.code,aw x=true
  pts: ∀p∈a.pts,0≤p.k∧p.k≤79
  len:a.code.length≤80
  np:a.pts.length≤8
  npre:a.pre.length≤6
  npost:a.post.length≤6
structure RuOk(s:List In)(r:Nat×List In):Prop where
  n:r.1≤s.length
  lt:r.2.length<r.1
  one:1≤r.2.length
  two:r.2.length≤2
  jmp: ∀x∈r.2,ii x=false
  ok:(∀x∈s,aw x=true)→∀x∈r.2,aw x=true
theorem uA{a:Bool}(h:(!a)=true):a=false:=by simpa using h
theorem rS{a:Bool}(h:(!a)=false):a=true:=by simpa using h
theorem orF{a b:Bool}(h:(bif a then true else b)=false):a=false∧b=false:=by cases a<;>cases b<;>simp_all
theorem qf{α:Type}{p:α→Bool}{xs:List α}(j:Nat)(hj:j<xs.length)(h:p xs[j]=true):xs.any p=true:=List.any_eq_true.2 ⟨xs[j],List.getElem_mem _,h⟩
theorem rz{α:Type}{p:α→Bool}{xs:List α}(h: ∀j (hj:j<xs.length),p xs[j]=false):xs.any p=false:=List.any_eq_false.2 fun x hx=>by
 obtain⟨j,hj,rfl⟩:=List.mem_iff_getElem.1 hx
 rw[h j hj];decide
def fL{α:Type}(f:α→α)(l:List α)(i:Nat):List α:=(l.take i).map f++l.drop i
section
set_option linter.unusedSectionVars false
variable{α:Type}[Inhabited α]{f:α→α}{l:List α}{i:Nat}{g:α→List D}
theorem kI:fL f l 0=l:=by simp[fL]
theorem mw:fL f l l.length=l.map f:=by simp[fL]
theorem pz:(fL f l i).length=l.length:=by simp only[fL,cC,cV,List.length_take,List.length_drop];omega
theorem pA(hi:i<l.length):((fL f l i).map g)[i]? = some (g (l.getD i default)):=by
 have h1:(fL f l i)[i]? = some (l.getD i default):=by
  rw[fL,List.getElem?_append_right (by simp;omega),cV,List.length_take,List.getElem?_drop,aH hi,show i+(i-min i l.length)=i by omega,List.getElem?_eq_getElem hi]
 rw[List.getElem?_map,h1];rfl
theorem mu(hi:i<l.length):(fL f l i).set i (f (l.getD i default))=fL f l (i+1):=by
 unfold fL
 rw[List.set_append_right _ _ (by simp;omega),cV,List.length_take,show i-min i l.length=0 by omega,List.drop_eq_getElem_cons hi,List.set_cons_zero,List.take_succ_eq_append_getElem hi,List.map_append,aH hi,dD]
 rfl
theorem py(hi:i<l.length){ds:List D}(h:g (f (l.getD i default))=ds):((fL f l i).map g).set i ds=(fL f l (i+1)).map g:=by
 rw[←mu hi,List.map_set,h]
theorem kJ(hi:i<l.length)(h:f (l.getD i default)=l.getD i default):fL f l (i+1)=fL f l i:=by
 rw[←mu hi,h]
 refine List.ext_getElem? fun j=>?_
 rw[List.getElem?_set]
 split
 rename_i e;subst e
 have h1:(fL f l i)[i]? = some (l.getD i default):=by
  rw[fL,List.getElem?_append_right (by simp;omega),cV,List.length_take,List.getElem?_drop,aH hi,show i+(i-min i l.length)=i by omega,List.getElem?_eq_getElem hi]
 rw[h1,if_pos (by rw[pz];exact hi)]
 rfl
theorem eE{j:Nat}(hi:i<l.length)(hj:j=i):((fL f l i).map g)[j]? = some (g (l.getD i default)):=by subst hj;exact pA hi
theorem kK{j:Nat}(hi:i<l.length)(hj:j=i){ds:List D}(h:g (f (l.getD i default))=ds):((fL f l i).map g).set j ds=(fL f l (i+1)).map g:=by subst hj;exact py hi h
end
theorem jU{α:Type}[Inhabited α]{s:List α}{i:Nat}(h:i<s.length):s.getD i default∈s:=by rw[aH h];exact List.getElem_mem h
theorem j5{c:List In}:Scal (c.map In.cells):=Scal.map fun _=>rfl
theorem pX{c:List In}: ∀x∈c.map In.cells,x.length=2:=by simp
structure Fo(a out:An)(k:Nat):Prop where
  le:k≤out.code.length
  eq:ml out=ml a
  ok:AOk out
  no: ∀j,j<k→(me out j).1=0
structure Gn(a out:An):Prop where
  eq:ml out=ml a
  ok:AOk out
theorem rZ{x:Int}:MQ h1 h2 107 [eI x] [] (Plain (eB (bU 0 79 x))):=by
 refine aF ?_ Z
 refine jB 5 h1 h2 Tryz.func107 Z fun O hF=>?_
 refine ac (js Z (bc (js Z (aS Z (fh h1 h2) 5000 Z (js Z (jr ?_))))))
 refine aO Z ?_
 first|rfl|skip
variable{x:In}
theorem c168:MQ h1 h2 71 [.agg (x.cells.map .d)] [] (Plain (eB (aw x))):=by
 refine aF ?_ Z
 refine jB 37 h1 h2 Tryz.func71 Z fun O hF=>?_
 refine ac (jx Z (js Z (jn (aj (ac (aa Z (jn (au (aj (ac (aa Z (jn (ab Z (fun z5=>?_) (fun z5=>?_))))))))))))))
 try simp only[bJ]at z5
 refine al (ab Z (fun z5=>?_) (fun z5=>?_))
 try simp only[bJ]at z5
 refine ac (aa Z (jf [9,6,4,3,2,1,0] Z (aS Z (r6 h1 h2) 11000 Z (js Z (jf [2,6,4,3,1,0] Z (jr ?_))))))
 refine aO Z ?_
 unfold aw bU;simp_all
 try simp only[bJ]at z5
 contradiction
 try simp only[bJ]at z5
 refine ag (aa Z (jn (ab Z (fun z5=>?_) (fun z5=>?_))))
 try simp only[bJ]at z5
 refine ac (aa Z (jf [9,7,6,4,3,2,1,0] Z (aS Z (r6 h1 h2) 11000 Z (js Z (jf [2,7,6,4,3,1,0] Z (jr ?_))))))
 refine aO Z ?_
 unfold aw bU;simp_all
 try simp only[bJ]at z5
 refine aj (ac (aa Z (jf [11,7,6,4,3,2,1,0] Z (jn (ab Z (fun z11=>?_) (fun z11=>?_))))))
 try simp only[bJ]at z11
 refine al (ab Z (fun z11=>?_) (fun z11=>?_))
 try simp only[bJ]at z11
 refine ac (aa Z (jf [15,7,6,4,3,2,1,0] Z (aS Z (r5 h1 h2) 17000 Z (js Z (jf [2,7,6,4,3,1,0] Z (jr ?_))))))
 refine aO Z ?_
 unfold aw bU;simp_all
 try simp only[bJ]at z11
 contradiction
 try simp only[bJ]at z11
 refine ag (aa Z (jn (ab Z (fun z11=>?_) (fun z11=>?_))))
 try simp only[bJ]at z11
 refine ac (aa Z (jf [15,13,7,6,4,3,2,1,0] Z (aS Z (r5 h1 h2) 17000 Z (js Z (jf [2,13,7,6,4,3,1,0] Z (jr ?_))))))
 refine aO Z ?_
 unfold aw bU;simp_all
 try simp only[bJ]at z11
 refine aj (ac (aa Z (jf [17,13,7,6,4,3,2,1,0] Z (jn (ab Z (fun z17=>?_) (fun z17=>?_))))))
 try simp only[bJ]at z17
 refine al (ab Z (fun z17=>?_) (fun z17=>?_))
 try simp only[bJ]at z17
 refine ac (aa Z (jf [21,13,7,6,4,3,2,1,0] Z (aS Z (rZ h1 h2) 23000 Z (js Z (jf [2,13,7,6,4,3,1,0] Z (jr ?_))))))
 refine aO Z ?_
 unfold aw bU;simp_all
 try simp only[bJ]at z17
 contradiction
 try simp only[bJ]at z17
 refine ag (aa Z (jn (ab Z (fun z17=>?_) (fun z17=>?_))))
 try simp only[bJ]at z17
 refine ac (aa Z (jf [21,19,13,7,6,4,3,2,1,0] Z (aS Z (rZ h1 h2) 23000 Z (js Z (jf [2,19,13,7,6,4,3,1,0] Z (jr ?_))))))
 refine aO Z ?_
 unfold aw bU;simp_all
 try simp only[bJ]at z17
 refine ac (aa Z (jf [23,19,13,7,6,4,3,2,1,0] Z (jn (ab Z (fun z23=>?_) (fun z23=>?_)))))
 try simp only[bJ]at z23
 refine ac (aa Z (jf [26,19,13,7,6,4,3,2,1,0] Z (aS Z (uG h1 h2) 28000 Z (js Z (jf [2,19,13,7,6,4,3,1,0] Z (jr ?_))))))
 refine aO Z ?_
 unfold aw bU;simp_all
 try simp only[bJ]at z23
 refine aj (ac (aa Z (jf [28,19,13,7,6,4,3,2,1,0] Z (jn (ab Z (fun z28=>?_) (fun z28=>?_))))))
 try simp only[bJ]at z28
 refine al (ab Z (fun z28=>?_) (fun z28=>?_))
 try simp only[bJ]at z28
 refine ac (aE Z (jf [2,28,19,13,7,6,4,3,1,0] Z (jr ?_)))
 refine aO Z ?_
 unfold aw bU;simp_all
 try simp only[bJ]at z28
 contradiction
 try simp only[bJ]at z28
 refine ac (aa Z (jn (ab Z (fun z28=>?_) (fun z28=>?_))))
 try simp only[bJ]at z28
 refine al (ab Z (fun z28=>?_) (fun z28=>?_))
 try simp only[bJ]at z28
 refine ac (aE Z (jf [2,28,30,19,13,7,6,4,3,1,0] Z (jr ?_)))
 refine aO Z ?_
 unfold aw bU;simp_all
 try simp only[bJ]at z28
 contradiction
 try simp only[bJ]at z28
 refine ac (aa Z (jn (ab Z (fun z28=>?_) (fun z28=>?_))))
 try simp only[bJ]at z28
 refine al (ab Z (fun z28=>?_) (fun z28=>?_))
 try simp only[bJ]at z28
 refine ac (aE Z (jf [2,28,31,30,19,13,7,6,4,3,1,0] Z (jr ?_)))
 refine aO Z ?_
 unfold aw bU;simp_all
 try simp only[bJ]at z28
 contradiction
 try simp only[bJ]at z28
 refine ac (aa Z (jn (ab Z (fun z28=>?_) (fun z28=>?_))))
 try simp only[bJ]at z28
 refine al (ab Z (fun z28=>?_) (fun z28=>?_))
 try simp only[bJ]at z28
 refine ac (aE Z (jf [2,32,31,30,19,13,7,6,4,3,1,0] Z (jr ?_)))
 refine aO Z ?_
 unfold aw bU;simp_all
 try simp only[bJ]at z28
 contradiction
 try simp only[bJ]at z28
 refine ag (aa Z (jn (ab Z (fun z28=>?_) (fun z28=>?_))))
 try simp only[bJ]at z28
 refine ac (aE Z (jf [2,33,32,31,30,19,13,7,6,4,3,1,0] Z (jr ?_)))
 refine aO Z ?_
 unfold aw bU;simp_all
 try simp only[bJ]at z28
 refine al (ac (js Z (jr ?_)))
 refine aO Z ?_
 unfold aw bU;simp_all
theorem c167:MQ h1 h2 70 [.agg (x.cells.map .d)] [] (Plain (eB (!aw x))):=by
 refine aF ?_ Z
 refine jB 6 h1 h2 Tryz.func70 Z fun O hF=>?_
 refine ac (jx Z (js Z (bc (js Z (jf [3,2,0] Z (aS Z (c168 h1 h2) 5000 Z (aa Z (jf [2,0] Z (jr ?_)))))))))
 refine aO Z ?_
 first|rfl|skip
theorem uH:MQ h1 h2 80 [.agg (x.cells.map .d)] [] (Plain (eB (ii x))):=by
 refine aF ?_ Z
 refine jB 11 h1 h2 Tryz.func80 Z fun O hF=>?_
 refine ac (jx Z (js Z (bc (aE Z (jf [6,2,1,0] Z (bz 3 Z Z Z (fun hx=>ba hx Z (ba hx Z (ba hx Z (AN.nil)))) Z Z ?_))))))
 first|refine ae (bq O Z Z Z Z Z) Z ?_|refine ae (Val.pickB O Z Z Z Z Z) Z ?_|refine ae (aU O Z Z Z Z Z) Z ?_
 refine js Z (jf [2,0] Z (jr ?_))
 refine aO Z ?_
 unfold ii;cases decide (x.op=5)<;>rfl
def ns{α:Type}(p:α→Bool)(l:List α):Int:=if l.any p=true then(l.findIdx p:Nat)else -1
theorem lA{α:Type}{p:α→Bool}{l:List α}(h: ∀j (hj:j<l.length),p l[j]=false):ns p l= -1:=by rw[ns,if_neg (by rw[rz h];decide)]
theorem lB{α:Type}{p:α→Bool}{l:List α}{i:Nat}(hi:i<l.length)(h: ∀j (hj:j<l.length),j<i→p l[j]=false)(hn:p l[i]=true):ns p l=i:=by
 rw[ns,if_pos (qf i hi hn)]
 exact congrArg Nat.cast ((List.findIdx_eq hi).2 ⟨hn,fun j hj=>by simp[h j (by omega) hj]⟩)
theorem oe{α:Type}{p:α→Bool}{l:List α}:decide (ns p l≥0)=l.any p:=by
 unfold ns
 cases h:l.any p<;>simp
variable{c:List In}
theorem s5:MQ h1 h2 104 [aJ c,.c (.fn 70 [])] [] (Plain (eI (ns (fun x:In=>!aw x) c))):=by
 refine aF ?_ Z
 refine jB 19 h1 h2 Tryz.func104 Z fun O hF=>?_
 have hl:c.length≤L:=by simpa[As.fact,A.fact,M.fact,D.fact,Ds.fact]using hF.1.1
 refine ac (js Z (jn (aj (ac (js Z ?_)))))
 first|refine cW Z ?_|refine js Z ?_|refine bP Z Z ?_
 refine js Z (jn (au (aK (X:=Nat) (fun i=>⟨[(0,aJ c),(1,.c (.fn 70 [])),(7,eI c.length),(8,eI i)],[]⟩) (fun i=>i≤c.length∧∀j (h:j<c.length),j<i→(fun x:In=>!aw x) c[j]=false) (fun i=>c.length-i) 0 (Ent.env ⟨Z,Z,Z,Z,aD⟩) ?_ (fun i hi=>?_))))
 exact⟨fK _,fun j h hj=>absurd hj (Nat.not_lt_zero j)⟩
 refine ac (js Z (jn (aj (ab Z (fun z9=>?_) (fun z9=>?_)))))
 refine al (aj (au (ac ?_)))
 have hil:i<c.length:=by have:=aB z9;omega
 refine aa Z (bc (bi Z ?_))
 first|refine tW Z Z ?_|refine rI Z Z ?_|refine bP Z Z ?_
 refine js Z (l9 [(15,_),(11,_),(5,_),(10,_),(9,_),(0,_),(1,_),(7,_),(8,_)] [] ⟨Z,Z,Z,Z,Z,Z,Z,Z,Z,aD⟩ Z (aS Z (c167 (x:=c.getD i default) h1 h2) 17000 Z (jf [16,5,10,9,0,1,7,8] Z (jn (ab Z (fun z16=>?_) (fun z16=>?_))))))
 refine ac (aa Z (jr ?_))
 refine aO Z ?_
 rw[aH hil]at z16
 rw[lB hil hi.2 z16]
 refine al (ag ?_)
 first|refine ji Z ?_|refine bP Z Z ?_
 refine js Z (jn ?_)
 refine⟨i+1,Ent.env ⟨Z,Z,Z,Z,aD⟩,⟨by omega,fun j h hj=>?_⟩,by omega⟩
 by_cases e:j=i
 subst e;rw[aH h]at z16;exact z16
 exact hi.2 j h (by omega)
 refine bL (ac (js Z (jr ?_)))
 refine aO Z ?_
 have h9:=bo z9
 rw[lA (fun j hj=>hi.2 j hj (by omega))]
theorem tD:MQ h1 h2 69 [aJ c,.c (.fn 70 [])] [] (Plain (eB (c.any (fun x:In=>!aw x)))):=by
 refine aF ?_ Z
 refine jB 9 h1 h2 Tryz.func69 Z fun O hF=>?_
 refine ac (js Z (bc (aa Z (jL O Z Z Z Z (s5 (c:=c) h1 h2) (.cons (.c .d) (.cons (.c (.fn .nil)) .nil)) Z Z Z Z Z (B0:=8000) Z (aa Z (jr ?_))))))
 refine aO Z ?_
 exact congrArg eB oe
theorem mR:MQ h1 h2 32 [aJ c] [] (Plain (eB (bm c))):=by
 refine aF ?_ Z
 refine jB 12 h1 h2 Tryz.func32 Z fun O hF=>?_
 have hl:c.length≤L:=by simpa[As.fact,A.fact,M.fact,D.fact,Ds.fact]using hF.1.1
 refine ac (js Z (bc (js Z ?_)))
 first|refine cW Z ?_|refine js Z ?_|refine bP Z Z ?_
 refine aS Z (qL h1 h2) 6000 Z (aS Z (fh h1 h2) 7000 Z (js Z (bz 3 Z Z Z (fun hx=>ba hx Z (fY O hx Z Z Z Z (tD (c:=c) h1 h2) (.cons (.c .d) (.cons (.c (.fn .nil)) .nil)) Z Z Z Z Z Z Z (B0:=10000) Z (ba hx Z (AN.nil)))) Z Z ?_)))
 first|refine ae (aU O Z Z Z Z Z) Z ?_|refine ae (bq O Z Z Z Z Z) Z ?_|refine ae (Val.pickB O Z Z Z Z Z) Z ?_
 refine js Z (jr ?_)
 refine aO Z ?_
 rw[Bool.cond_false_right,show bm c=_ from Bool.and_comm _ _,List.all_eq_not_any_not]
theorem tF{r:List In}(hl:(x::r).length≤1000):MQ h1 h2 39 [aJ (x::r)] [] (Rows (.c (.rs 0 0 (x::r).length)) [ij (x::r)]):=by
 refine c8 (jB 8 h1 h2 Tryz.func39 Z fun O hF=>?_)
 refine ac (js Z (jn (aj (ac (aa Z (jn (ab Z (fun z4=>?_) (fun z4=>?_))))))))
 exact fN z4
 refine al (ac (bg (HS.lit O Z Z Z) Z (js Z (jf [6,5,3,2,0] Z (bg (ik (own:=true) (zs:=(x::r).map In.cells) (n:=(x::r).length) O Z (.row Z Z) (.slc (.inr j5)) (by simp) Z (by simp at hl ⊢;omega) (by simp at hl ⊢;omega) Z (by simp)) Z (js Z (jf [2,3,0] Z (jr ?_))))))))
 refine⟨.inl Z,_,aW,_,Z,[7],by decide,Z,Z,Z⟩
theorem r9{L:Nat}(h1:4096≤L)(h2:L≤1073741824){c:List In}(h0:0<c.length)(hl:c.length≤1000):MC Tryz.prog L 39 [aJ c] [] (Rows (.c (.rs 0 0 c.length)) [ij c]):=by
 cases c with
 | nil=>cases h0
 | cons x r=>exact tF h1 h2 hl
structure WkOk(a:An)(d:List Bool):Prop where
  len:d.length=a.code.length
  c80:a.code.length≤80
  jmp: ∀x∈a.code,-1000000≤x.a∧x.a≤1000000∧(ii x=true→0≤x.a)
  pts: ∀p∈a.pts,0≤p.k∧p.k≤79
def tg(x:In)(k:Int):List Int:=
  if x.op=11 then[]else if x.op=5 then[x.a]else if x.op=6 then(if x.a<k+1 then[x.a,k+1]else if x.a=k+1 then[k+1]else[k+1,x.a])else[k+1]
theorem nZ{x:In}{k:Int}:(tg x k).length≤2:=by
 unfold tg;split
 simp
 split
 simp
 split
 split
 simp
 split<;>simp
 simp
inductive Rch(c:List In)(st:List Int):Nat→Prop
  | start {z:Int}:z∈st→0≤z→z<c.length→Rch c st z.toNat
  | step {k:Nat} {z:Int}:Rch c st k→z∈tg (c.getD k default) k→0≤z→z<c.length→Rch c st z.toNat
structure Rsh(c:List In)(st:List Int)(u:List Bool)(ws:List Int):Prop where
  len:u.length=c.length
  nn: ∀z∈ws,0≤z∧z≤100
  sd: ∀k,k<c.length→u.getD k default=true→Rch c st k
  sw: ∀z∈ws,z<c.length→Rch c st z.toNat
  cl: ∀k,k<c.length→u.getD k default=true→∀z∈tg (c.getD k default) k,0≤z→z<c.length→u.getD z.toNat default=true∨z∈ws
  cs: ∀z∈st,0≤z→z<c.length→u.getD z.toNat default=true∨z∈ws
structure DpOk(a:An):Prop where
  c80:a.code.length≤80
  jmp: ∀x∈a.code,-1000000≤x.a∧x.a≤1000000∧(ii x=true→0≤x.a)
  pts: ∀p∈a.pts,0≤p.k∧p.k≤79
theorem qF{α β:Type}[Inhabited α]{l:List α}{f:α→β}{n j:Nat}(h:n<l.length)(hj:j=n):(l.map f)[j]? = some (f (l.getD n default)):=by subst hj;simp[h]
theorem t6{α β:Type}{l:List α}{f:α→β}{n j:Nat}{v:α}{ds:β}(hj:j=n)(hd:ds=f v):(l.map f).set j ds=(l.set n v).map f:=by subst hj;subst hd;rw[List.map_set]
theorem ft{σ:Sg}{o:Oper}{s:St}(hσ:SgOk σ){t l off m sz:Nat}{x lo:Operand}{k:IntKind}{own:Bool}{xs:List (List D)}{i ti:TI}(ho:o.op= .slice t x (some lo) none none)(hs:Al.Oper.shorts o=true)(hx:ev s x=some (.c (.rs l off (m+1))))(hh:ev s lo=some (.c (.d (.int k 1))))(hl:lk s.H l=some (.row own sz xs))
    (hi':lk σ.tt t=some i) (hk:Nat.beq i.kind 1=true) (ht:lk σ.tt i.elem=some ti) (hz:Nat.beq sz ti.size=true):Val σ s o (.c (.rs l (off+1) m)):=by
 refine Val.of hσ ?_ hs
 simp[dh,ho,opt,hx,hh,fF,hi',hk,ht,hz,nat?,hl]
theorem tI:MQ h1 h2 157 [.c (.d (.int .u64 2))] [] (Plain (eI 2)):=by
 refine aF ?_ Z
 refine jB 25 h1 h2 Tryz.func157 Z fun O hF=>?_
 refine ac (js Z (jn (aj (ac (aa Z (jn (ab Z (fun z4=>?_) (fun z4=>?_))))))))
 exact absurd z4 (by decide)
 refine al (aj (ac (aa Z (jn (ab Z (fun z8=>?_) (fun z8=>?_))))))
 exact absurd z8 (by decide)
 refine al (aj (ac (aa Z (jn (ab Z (fun z14=>?_) (fun z14=>?_))))))
 exact absurd z14 (by decide)
 refine al (ac (aa Z (ae ((Val.conv O (k':=.u8) (dt:=.int .u64) (b:=true) Z Z Z (by kernel_rfl) (by kernel_rfl)).cast (v':=.c (.d (.int .u8 2))) Z) Z (ae (Val.of O (v:=.c (.d (.int .u8 2))) (by kernel_rfl) (by kernel_rfl)) Z (ae ((Val.conv O (k':=.i64) (dt:=.int .u8) (b:=true) Z Z Z (by kernel_rfl) (by kernel_rfl)).cast (v':=eI 2) Z) Z (ae ((ah O Z Z (by decide) (by decide)).cast (v':=eI 2) Z) Z (js Z (jr ?_))))))))
 refine aO Z ?_
 rfl
theorem tL:MQ h1 h2 115 [.c (.d (.int .u64 2))] [] (Plain (eI 2)):=by
 refine aF ?_ Z
 refine jB 8 h1 h2 Tryz.func115 Z fun O hF=>?_
 refine ac (js Z (jn (aj (ab Z (fun hc=>?_) (fun hc=>?_)))))
 cases hc
 refine al (ac (js Z (aS Z (tI h1 h2) 8000 Z (js Z (jr ?_)))))
 refine aO Z ?_
 rfl
theorem tH{x:Int}:MQ h1 h2 188 [eI x] [] (Plain (eB false)):=by
 refine aF ?_ Z
 refine jB 6 h1 h2 Tryz.func188 Z fun O hF=>?_
 refine ac (js Z (bc (aE Z (jr ?_))))
 refine aO Z ?_
 simp
theorem tJ{x y:Int}:MQ h1 h2 153 [eI x,eI y] [] (Plain (eB (decide (x<y)))):=by
 refine aF ?_ Z
 refine jB 17 h1 h2 Tryz.func153 Z fun O hF=>?_
 refine ac (js Z (bc (js Z (aS Z (tH (x:=x) h1 h2) 7000 Z (js Z (cT Z (cT Z (cT Z (ae (aM O Z Z Z Z Z) Z (js Z (br Z (js Z (br Z (js Z (br Z (js Z (ae (aM O Z Z Z Z Z) Z (js Z (jr ?_)))))))))))))))))))
 refine aO Z ?_
 rfl
def mP(x y:Int):List Int:=if y<x then[y,x]else[x,y]
theorem sL{x y:Int}(h:y<x):mP x y=[y,x]:=if_pos h
theorem sM{x y:Int}(h: ¬y<x):mP x y=[x,y]:=if_neg h
theorem tP{a b:Bool}(h:(bif a then b else false)=true):a=true∧b=true:=by cases a<;>cases b<;>simp_all
variable{a b:Int}
theorem tK:MQ h1 h2 147 [.c (.rs 0 0 2),eI 0,eI 2] [(0,am [a,b])] (bV (.tup []) [(0,am (mP a b))]):=by
 refine MC.shift 500 Z (jH 49 [500] h1 h2 Tryz.func147 Z fun O hF=>?_)
 refine ac (js Z (ae ((ah O Z Z (by decide) (by decide)).cast (v':=eI 1) Z) Z (js Z (jf [6,0,1,2] Z (jn (au (aK (X:=Int×List Int) (fun x=>⟨[(0,.c (.rs 500 0 2)),(1,eI 0),(2,eI 2),(6,eI x.1)],[(500,am x.2)]⟩) (fun x=>(x.1=1∧x.2=[a,b])∨(x.1=2∧x.2=mP a b)) (fun x=>(2-x.1).toNat) (1,[a,b]) (Ent.to ⟨Z,Z,Z,Z,aD⟩ Z) ?_ (fun x hi=>?_))))))))
 exact .inl ⟨Z,Z⟩
 refine aj (ac (bi Z (jf [12,0,1,2,6] Z (jn (ab Z (fun z12=>?_) (fun z12=>?_))))))
 refine al (aj (au (ac ?_)))
 obtain⟨ex1,ex2⟩:x.1=1∧x.2=[a,b]:=hi.resolve_right (fun g=>by rw[g.1]at z12;exact absurd z12 (by decide))
 rw[ex1,ex2]
 refine aa Z (jn (au (aK (X:=Int×List Int) (fun z=>⟨[(0,.c (.rs 500 0 2)),(1,eI 0),(2,eI 2),(6,eI 1),(7,eI z.1)],[(500,am z.2)]⟩) (fun z=>(z.1=1∧z.2=[a,b])∨(z.1=0∧z.2=[b,a]∧b<a)) (fun z=>z.1.toNat) (1,[a,b]) (Ent.to ⟨Z,Z,Z,Z,Z,aD⟩ Z) ?_ (fun z hi=>?_))))
 exact .inl ⟨Z,Z⟩
 refine aj (aj (ig ⟨[(30,eB (bif decide ((0:Int)<z.1)then decide (b<a)else false)),(0,.c (.rs 500 0 2)),(1,eI 0),(2,eI 2),(6,eI 1),(7,eI z.1)],[(500,am z.2)]⟩ ?_ ?_))
 cases hb4:decide ((0:Int)<z.1)with
 | true=>
  obtain⟨g1,g2⟩:z.1=1∧z.2=[a,b]:=hi.resolve_right (fun g=>by have:=aB hb4;omega)
  rw[g1,g2]
  refine uR [_,_,_,_,_,_,_,_,_,_,_,_,_,_,_] [aZ,aZ,av [0,1],av [0,1,2],av (rg 0 4),av (rg 0 4),av (rg 0 6),av (rg 0 7),av (rg 0 4),av (rg 0 4),av [0,1,2,3,9],av [0,1,2,3,8,9,10],av (rg 0 4++rg 8 4),pe (rg 0 13) 0,pn (rg 0 14) 1 1] [13] [_,_] (kc Z (kc Z (ai ((V Z).cast (v':=eB true) Z) (kc Z (kc Z (kc Z (ai ((V Z).cast (v':=.c (.pt 500 1 0)) Z) (ai (ar O (ex:=[.int .i64 b]) Z Z Z Z Z Z) (kc Z (kc Z (ai ((ah O Z Z (by decide) (by decide)).cast (v':=eI 0) Z) (ai ((V Z).cast (v':=.c (.pt 500 0 0)) Z) (ai (ar O (ex:=[.int .i64 a]) Z Z Z Z Z Z) (ai (k8 O (B0:=30000) Z Z Z Z (tJ (x:=b) (y:=a) h1 h2) (ak Z) Z Z Z Z Z) (ai (bp O Z Z Z Z Z) trivial))))))))))))))) ?_
  exact⟨Z,Ent.to ⟨Z,Z,Z,Z,Z,Z,aD⟩ Z⟩
 | false=>
  refine uR [_,_,_,_,_,_,_,_,_,_,_,_,_,_,_] [aZ,aZ,av [0,1],av [0,1,2],av (rg 0 4),av (rg 0 4),av (rg 0 6),av (rg 0 7),av (rg 0 4),av (rg 0 4),av [0,1,2,3,9],av [0,1,2,3,8,9,10],av (rg 0 4++rg 8 4),av (rg 0 13),av (rg 0 14)] [] [_] (kc Z (kc Z (ai ((V Z).cast (v':=eB false) (congrArg eB hb4)) (kc Z (ai ⟨Z,Z⟩ (ai ⟨Z,Z⟩ (ai ⟨Z,Z⟩ (ai ⟨Z,Z⟩ (ai ⟨Z,Z⟩ (ai ⟨Z,Z⟩ (ai ⟨Z,Z⟩ (ai ⟨Z,Z⟩ (ai ⟨Z,Z⟩ (ai ⟨Z,Z⟩ (ai (aM O Z Z Z Z Z) trivial))))))))))))))) ?_
  exact⟨Z,Ent.to ⟨Z,Z,Z,Z,Z,Z,aD⟩ Z⟩
 refine ab Z (fun z30=>?_) (fun z30=>?_)
 refine al (aj (au ?_))
 obtain⟨z8,z9⟩:=tP z30
 have hlt:b<a:=aB z9
 obtain⟨ez1,ez2⟩:z.1=1∧z.2=[a,b]:=hi.resolve_right (fun g=>by have:=aB z8;omega)
 rw[ez1,ez2]
 refine hZ [_,_,_,_,_,_,_,_,_,_,_,_,_,_,_,_,_,_] [aZ,aZ,pn [] 0 1,pn [] 0 1,pn [3] 0 1,aZ,aZ,av [6],av [5,6,7],av (rg 5 4),aZ,aZ,av [10,11],av [10,11,12],av ([0,1]++rg 5 9),pe ([0,1]++rg 5 10) 0,pn (rg 0 16) 1 1,pe (rg 0 17) 1] [15,17] [_,_,_] (kc Z (kc Z (ai (kc Z (V Z)) (ai (kc Z (V Z)) (ai (ai ((ah O Z Z (by decide) (by decide)).cast (v':=eI 0) Z) ((ah O Z Z (by decide) (by decide)).cast (v':=eI 0) Z)) (kc Z (kc Z (ai ((ah O Z Z (by decide) (by decide)).cast (v':=eI 0) Z) (ai ((V Z).cast (v':=.c (.pt 500 0 0)) Z) (ai (ar O (ex:=[.int .i64 a]) Z Z Z Z Z Z) (kc Z (kc Z (ai ((V Z).cast (v':=.c (.pt 500 1 0)) Z) (ai (ar O (ex:=[.int .i64 b]) Z Z Z Z Z Z) (ai ((V Z).cast (v':=.c (.pt 500 1 0)) Z) (ai (cB (ex:=[.int .i64 b]) (xs':=[a,a].map (fun n=>[D.int .i64 n])) O Z Z Z Z Z Z Z Z Z Z Z Z Z Z Z Z Z Z) (ai ((V Z).cast (v':=.c (.pt 500 0 0)) Z) (ai (cB (ex:=[.int .i64 a]) (xs':=[b,a].map (fun n=>[D.int .i64 n])) O Z Z Z Z Z Z Z Z Z Z Z Z Z Z Z Z Z Z) trivial)))))))))))))))))) ?_
 refine jw [30,0,1,2,6,7] Z (dK ?_)
 refine ag (js Z (ae ((ah O Z Z (by decide) (by decide)).cast (v':=eI 0) Z) Z (js Z (jf [7,30,0,1,2,6] Z (jn ?_)))))
 refine⟨(0,[b,a]),Ent.to ⟨Z,Z,Z,Z,Z,aD⟩ Z,.inr ⟨Z,Z,hlt⟩,by show(0:Int).toNat<(1:Int).toNat;decide⟩
 refine bL (ag ?_)
 have hz9:mP a b=z.2:=by
  rcases hi with⟨g1,g2⟩|⟨g1,g2,g3⟩
  rw[g2];exact sM (fun g=>by rw[g1,decide_eq_true g]at z30;cases z30)
  rw[g2];exact sL g3
 refine js Z (ae ((ah O Z Z (by decide) (by decide)).cast (v':=eI 2) Z) Z (js Z (jf [6,30,0,1,2,7] Z (jn ?_))))
 refine⟨(2,mP a b),Ent.to ⟨Z,Z,Z,Z,aD⟩ (by rw[hz9]),.inr ⟨Z,Z⟩,by show((2:Int)-2).toNat<((2:Int)-1).toNat;decide⟩
 refine bL ?_
 show _∧_
 obtain⟨ex1,ex2⟩:x.1=2∧x.2=mP a b:=hi.resolve_left (fun g=>by rw[g.1]at z12;exact absurd z12 (by decide))
 rw[ex2]
 refine⟨.inr Z,_,aW,_,Z,Z,Z⟩
theorem tM:MQ h1 h2 114 [.c (.rs 0 0 2),eI 0,eI 2,eI 2] [(0,am [a,b])] (bV (.tup []) [(0,am (mP a b))]):=by
 refine MC.shift 500 Z (jH 134 [500] h1 h2 Tryz.func114 Z fun O hF=>?_)
 refine ac (js Z (bc (js Z (jn (au (aK (X:=Unit) (fun _u=>⟨[(0,.c (.rs 500 0 2)),(1,eI 0),(2,eI 2)],[(500,am [a,b])]⟩) (fun _u=>True) (fun _u=>0) () (Ent.to ⟨Z,Z,Z,aD⟩ Z) ?_ (fun _ hi=>?_)))))))
 trivial
 refine au (ac (aa Z (ae ((ah O Z Z (by decide) (by decide)).cast (v':=eI 2) Z) Z (js Z (jf [10,0,1,2] Z (jn (aj (ac (aa Z (jn (ab Z (fun z23=>?_) (fun z23=>?_))))))))))))
 refine ac (bi Z (ap O [500] (bin:=[am [a,b]]) Z Z Z Z (tK (a:=a) (b:=b) h1 h2) Z Z Z Z Z Z (B0:=28000) Z Z (ax ?_)))
 refine jf [23,22,10,0,1,2] Z (jr ?_)
 refine⟨.inl Z,_,aW,_,Z,Z,Z⟩
 exact absurd z23 (by decide)
theorem tN:MQ h1 h2 81 [.c (.rs 0 0 2)] [(0,am [a,b])] (bV (.tup []) [(0,am (mP a b))]):=by
 refine MC.shift 500 Z (jH 11 [500] h1 h2 Tryz.func81 Z fun O hF=>?_)
 refine ac (js Z ?_)
 first|refine cW Z ?_|refine js Z ?_|refine bP Z Z ?_
 refine js Z (jf [2,0] Z (jn (ag (bi Z (ae ((Val.conv O (k':=.u64) (dt:=.int .i64) (b:=true) Z Z Z (by kernel_rfl) (by kernel_rfl)).cast (v':=.c (.d (.int .u64 2))) Z) Z (jf [8,6,5,0] Z (aS Z (tL h1 h2) 10000 Z (jf [9,6,5,0] Z (ap O [500] (bin:=[am [a,b]]) Z Z Z Z (tM (a:=a) (b:=b) h1 h2) Z Z Z Z Z Z (B0:=11000) Z Z (ax ?_))))))))))
 refine jf [0] Z (jn ?_)
 show _∧_
 refine⟨.inr Z,_,aW,_,Z,Z,Z⟩
theorem ot:MQ h1 h2 82 [.c (.rs 0 0 2)] [(0,am [a,a])] (bV (.c (.rs 0 0 1)) [(0,am [a,0])]):=by
 refine MC.shift 500 Z (jH 61 [500] h1 h2 Tryz.func82 Z fun O hF=>?_)
 refine ac (js Z (jn (aj (ac (js Z ?_)))))
 first|refine cW Z ?_|refine js Z ?_|refine bP Z Z ?_
 refine js Z (jf [8,2,0] Z (jn (ab Z (fun z8=>?_) (fun z8=>?_))))
 exact absurd z8 (by decide)
 refine al (aj (ac (js Z (jn (au (aK (X:=Int) (fun k=>⟨[(0,.c (.rs 500 0 2)),(3,eI k)],[(500,am [a,a])]⟩) (fun k=>k=1∨(k=2∧False)) (fun k=>(2-k).toNat) 1 (Ent.to ⟨Z,Z,aD⟩ Z) ?_ (fun k hi=>?_)))))))
 exact .inl Z
 refine aj (ac (aa Z ?_))
 first|refine cW Z ?_|refine js Z ?_|refine bP Z Z ?_
 refine js Z (jf [13,0,3] Z (jn (ab Z (fun z13=>?_) (fun z13=>?_))))
 refine al (aj (au (aj ?_)))
 obtain ek:k=1:=hi.resolve_right (fun g=>g.2)
 rw[ek]
 refine hZ [_,_,_,_,_,_,_,_,_,_] [aZ,aZ,av [0,1],av [0,1,2],aZ,aZ,av [5],av [4,5,6],av (rg 4 4),av (rg 0 9)] [] [_] (kc Z (kc Z (ai ((V Z).cast (v':=.c (.pt 500 1 0)) Z) (ai (ar O (ex:=[.int .i64 a]) Z Z Z Z Z Z) (kc Z (kc Z (ai ((ah O Z Z (by decide) (by decide)).cast (v':=eI 0) Z) (ai ((V Z).cast (v':=.c (.pt 500 0 0)) Z) (ai (ar O (ex:=[.int .i64 a]) Z Z Z Z Z Z) (kc Z trivial)))))))))) ?_
 refine jw [25,13,0,3] Z (dK ?_)
 refine ab Z (fun z25=>?_) (fun z25=>?_)
 refine ac (aa Z (ae (ft O Z Z Z Z Z Z Z Z Z) Z (js Z (jf [4,25,13,0,3] Z (jn (aj (ac (js Z (jn (au (aK (X:=Unit) (fun _u=>⟨[(0,.c (.rs 500 0 2)),(3,eI 1),(4,.c (.rs 500 1 1)),(5,eI 1)],[(500,am [a,a])]⟩) (fun _u=>True) (fun _u=>0) () (Ent.to ⟨Z,Z,Z,Z,aD⟩ Z) ?_ (fun _ hi=>?_))))))))))))
 trivial
 refine aj (ac (aa Z ?_))
 first|refine cW Z ?_|refine js Z ?_|refine bP Z Z ?_
 refine js Z (jf [32,0,3,4,5] Z (jn (ab Z (fun z32=>?_) (fun z32=>?_))))
 exact absurd z32 (by decide)
 refine bL (ac (aa Z (ae (ft O Z Z Z Z Z Z Z Z Z) Z (jf [56,32,0,3,4,5] Z (bg (nf (z:=.int .i64 0) (ex:=[.int .i64 a]) (xs':=[a,0].map (fun n=>[D.int .i64 n])) O Z Z Z Z Z Z Z Z Z Z Z Z Z Z Z Z Z Z Z) Z (ax ?_))))))
 refine ax ?_
 refine bc (aa Z (ae (aY O Z Z Z Z Z Z Z Z Z (m:=1) Z (by decide)) Z (js Z (jf [2,56,32,0,3,4,5] Z (jr ?_)))))
 refine⟨.inl Z,_,aW,_,Z,Z,Z⟩
 exact absurd z25 (by rw[decide_eq_true Z];decide)
 refine bL (ac (aa Z (jr ?_)))
 have ek:k=1:=hi.resolve_right (fun g=>g.2)
 rw[ek]at z13
 exact absurd z13 (by decide)
theorem oq(hab: ¬b=a):MQ h1 h2 82 [.c (.rs 0 0 2)] [(0,am [a,b])] (bV (.c (.rs 0 0 2)) [(0,am [a,b])]):=by
 refine MC.shift 500 Z (jH 61 [500] h1 h2 Tryz.func82 Z fun O hF=>?_)
 refine ac (js Z (jn (aj (ac (js Z ?_)))))
 first|refine cW Z ?_|refine js Z ?_|refine bP Z Z ?_
 refine js Z (jf [8,2,0] Z (jn (ab Z (fun z8=>?_) (fun z8=>?_))))
 exact absurd z8 (by decide)
 refine al (aj (ac (js Z (jn (au (aK (X:=Int) (fun k=>⟨[(0,.c (.rs 500 0 2)),(3,eI k)],[(500,am [a,b])]⟩) (fun k=>k=1∨k=2) (fun k=>(2-k).toNat) 1 (Ent.to ⟨Z,Z,aD⟩ Z) ?_ (fun k hi=>?_)))))))
 exact .inl Z
 refine aj (ac (aa Z ?_))
 first|refine cW Z ?_|refine js Z ?_|refine bP Z Z ?_
 refine js Z (jf [13,0,3] Z (jn (ab Z (fun z13=>?_) (fun z13=>?_))))
 refine al (aj (au (aj ?_)))
 obtain ek:k=1:=hi.resolve_right (fun g=>by rw[g]at z13;exact absurd z13 (by decide))
 rw[ek]
 refine hZ [_,_,_,_,_,_,_,_,_,_] [aZ,aZ,av [0,1],av [0,1,2],aZ,aZ,av [5],av [4,5,6],av (rg 4 4),av (rg 0 9)] [] [_] (kc Z (kc Z (ai ((V Z).cast (v':=.c (.pt 500 1 0)) Z) (ai (ar O (ex:=[.int .i64 b]) Z Z Z Z Z Z) (kc Z (kc Z (ai ((ah O Z Z (by decide) (by decide)).cast (v':=eI 0) Z) (ai ((V Z).cast (v':=.c (.pt 500 0 0)) Z) (ai (ar O (ex:=[.int .i64 a]) Z Z Z Z Z Z) (kc Z trivial)))))))))) ?_
 refine jw [25,13,0,3] Z (dK ?_)
 refine ab Z (fun z25=>?_) (fun z25=>?_)
 exact absurd (aB z25) hab
 refine al (ag (js Z (ae ((ah O Z Z (by decide) (by decide)).cast (v':=eI 2) Z) Z (js Z (jf [3,25,13,0] Z (jn ?_))))))
 refine⟨2,Ent.to ⟨Z,Z,aD⟩ Z,.inr Z,by show((2:Int)-2).toNat<((2:Int)-1).toNat;decide⟩
 refine bL (ac (aa Z (jr ?_)))
 refine⟨.inl Z,_,aW,_,Z,Z,Z⟩
theorem nY{x k:Int}:(if x<k then[x,k]else if x=k then[k]else[k,x])=if x=k then[k]else mP k x:=by
 unfold mP
 by_cases h1:x<k
 rw[if_pos h1,if_neg (by omega),if_pos h1]
 rw[if_neg h1,if_neg h1]
theorem pE{a b:Int}: ∃p q,mP a b=[p,q]∧(a≠b→¬q=p)∧(a=b→p=b∧q=b):=by
 unfold mP
 by_cases h:b<a
 exact⟨b,a,if_pos h,fun h=>h,fun h=>⟨Z,h⟩⟩
 exact⟨a,b,if_neg h,fun h g=>h g.symm,fun h=>⟨h,Z⟩⟩
theorem gA{p:Prop}[Decidable p](h:decide p=false): ¬p:=bo h
theorem tO{k:Nat}(hk:k<c.length)(hc:c.length≤1000):MQ h1 h2 42 [aJ c,eI k] [] (Rows (.c (.rs 0 0 (tg (c.getD k default) k).length)) [am (tg (c.getD k default) k)]):=by
 refine c8 (jB 35 h1 h2 Tryz.func42 Z fun O hF=>?_)
 refine ac (js Z (bc (aa Z (ae (bG O Z Z Z Z Z Z Z Z (gj hk)) Z (aa Z ?_)))))
 first|refine ji Z ?_|refine bP Z Z ?_
 refine jf [13,11,4] Z (jl Z (ax ?_))
 refine jo Z (ax ?_)
 refine js Z (jf [6,5,4] Z (jn (aj (ac (aa Z (jn (au (ac (aa Z (jn (ab Z (fun z16=>?_) (fun z16=>?_))))))))))))
 refine ac (js Z (jr ?_))
 rw[tg,if_pos (aB z16)]
 refine⟨.inl Z,_,(eR 4 900 1 true Z Z).trans (Ent.to (e':=[(4,_)]) ⟨Z,aD⟩ Z),_,Z,[900],by decide,Z,Z,Z⟩
 refine ac (aa Z (jf [18,17,15,14,6,5,4] Z (jn (ab Z (fun z18=>?_) (fun z18=>?_)))))
 refine ac (aa Z (jf [21,17,15,14,6,5,4] Z (bg (HS.lit O Z Z Z) Z (ax ?_))))
 refine js Z (jf [4,17,15,14,6,5] Z (jr ?_))
 rw[tg,if_neg (gA z16),if_pos (aB z18)]
 refine⟨.inl Z,_,aW,_,Z,[22],by decide,Z,Z,Z⟩
 refine ac (aa Z (jf [23,17,15,14,6,5,4] Z (jn (ab Z (fun z23=>?_) (fun z23=>?_)))))
 refine ac (bi Z (jf [27,25,17,15,14,6,5,4] Z (bg (HS.lit O Z Z Z) Z (ax ?_))))
 refine js Z (jf [7,17,15,14,6,5,4] Z (bc (js Z (ap O [28] (bin:=[am [((k:Int)+1),(c.getD k default).a]]) Z Z Z Z (tN (a:=((k:Int)+1)) (b:=(c.getD k default).a) h1 h2) Z Z Z Z Z Z (B0:=31000) Z Z ?_))))
 obtain⟨p,q,epq,hpq,hpe⟩:=pE (a:=((k:Int)+1)) (b:=(c.getD k default).a)
 refine ax ?_
 rw[epq]
 refine jf [7,17,15,14,6,5,4] Z (bc (js Z ?_))
 cases hb32:decide (((k:Int)+1)=(c.getD k default).a)with
 | true=>
  obtain⟨ep,eq⟩:=hpe (aB hb32)
  rw[ep,eq]
  first|refine ap O [28] (bin:=[am [(c.getD k default).a,(c.getD k default).a]]) Z Z Z Z (ot (a:=(c.getD k default).a) h1 h2) Z Z Z Z Z Z (B0:=33000) Z Z ?_|refine ap O [28] (bin:=[am [p,q]]) Z Z Z Z (oq (a:=p) (b:=q) h1 h2 hne) Z Z Z Z Z Z (B0:=33000) Z Z ?_
  refine ax ?_
  refine js Z (jf [4,7,17,15,14,6,5] Z (jr ?_))
  have hE:=aB hb32
  rw[tg,if_neg (gA z16),if_neg (gA z18),if_pos (aB z23),nY,if_pos hE.symm]
  rw[hE]
  refine⟨.inl Z,_,Ent.cut 28 1 Z,_,Z,[28],by decide,Z,Z,Z⟩
 | false=>
  have hne:=hpq (bo hb32)
  first|refine ap O [28] (bin:=[am [(c.getD k default).a,(c.getD k default).a]]) Z Z Z Z (ot (a:=(c.getD k default).a) h1 h2) Z Z Z Z Z Z (B0:=33000) Z Z ?_|refine ap O [28] (bin:=[am [p,q]]) Z Z Z Z (oq (a:=p) (b:=q) h1 h2 hne) Z Z Z Z Z Z (B0:=33000) Z Z ?_
  refine ax ?_
  refine js Z (jf [4,7,17,15,14,6,5] Z (jr ?_))
  have hE:=bo hb32
  rw[tg,if_neg (gA z16),if_neg (gA z18),if_pos (aB z23),nY,if_neg (fun g=>hE g.symm),epq]
  refine⟨.inl Z,_,aW,_,Z,[28],by decide,Z,Z,Z⟩
 refine al (ac (js Z (jf [33,17,15,14,6,5,4] Z (bg (HS.lit O Z Z Z) Z (ax ?_)))))
 refine js Z (jf [4,17,15,14,6,5] Z (jr ?_))
 rw[tg,if_neg (gA z16),if_neg (gA z18),if_neg (gA z23)]
 refine⟨.inl Z,_,aW,_,Z,[34],by decide,Z,Z,Z⟩
theorem pH{ws:List Int}{z:Int}:((ws++[z]).map (fun n=>[D.int .i64 n])).take ws.length=ws.map (fun n=>[D.int .i64 n]):=by simp
theorem mH{z:Int}{n:Nat}:bU 0 ((n:Int)-1) z=true↔0≤z∧z<n:=by unfold bU;simp only[bj,decide_eq_true_eq];omega
end Go.Al
