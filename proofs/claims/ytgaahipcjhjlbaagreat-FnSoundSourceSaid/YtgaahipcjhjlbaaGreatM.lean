/- The reference: the flow of a program, all paths of a start. The program: goals, facts, ends of paths, copies. The program follows a path. The program: its loops, the paths of a start, of all starts. Both gather the same. -/
import Derived.Test.YtgaahipcjhjlbaaGreatH
import Derived.Test.YtgaahipcjhjlbaaGreatC
set_option linter.unusedVariables false
set_option linter.unusedSimpArgs false
set_option maxRecDepth 10000
set_option maxHeartbeats 4000000
open Go.Proofs
namespace Go.Al
variable{L:Nat}(h1:4096≤L)(h2:L≤1073741824)
def aC : Tr→Int→List Fl→List Fl×Int
  | .node s a [x,y],nx,f=>if s.kind=1 then aC x (aC y nx f).2 (aC y nx f).1
      else((aC y nx (aC x nx f).1).1++[⟨a,(aC x nx f).2,(aC y nx (aC x nx f).1).2⟩],(aC y nx (aC x nx f).1).1.length)
  | .node s a [x],nx,f=>((aC x f.length (f++[⟨a,0,nx⟩])).1.set f.length ⟨((aC x f.length (f++[⟨a,0,nx⟩])).1.getD f.length default).stmt,(aC x f.length (f++[⟨a,0,nx⟩])).2,((aC x f.length (f++[⟨a,0,nx⟩])).1.getD f.length default).other⟩,f.length)
  | .node s a _,nx,f=>(f++[⟨a,nx,-1⟩],f.length)
theorem oG{s:Sm}{a nx:Int}{f:List Fl}:aC (.node s a []) nx f=(f++[⟨a,nx,-1⟩],(f.length:Int)):=by rw[aC]<;>simp
theorem oE{s:Sm}{a nx:Int}{x:Tr}{f:List Fl}:aC (.node s a [x]) nx f=((aC x f.length (f++[⟨a,0,nx⟩])).1.set f.length ⟨((aC x f.length (f++[⟨a,0,nx⟩])).1.getD f.length default).stmt,(aC x f.length (f++[⟨a,0,nx⟩])).2,((aC x f.length (f++[⟨a,0,nx⟩])).1.getD f.length default).other⟩,(f.length:Int)):=by rw[aC]
theorem mb{s:Sm}{a nx:Int}{x y:Tr}{f:List Fl}:aC (.node s a [x,y]) nx f=if s.kind=1 then aC x (aC y nx f).2 (aC y nx f).1
      else((aC y nx (aC x nx f).1).1++[⟨a,(aC x nx f).2,(aC y nx (aC x nx f).1).2⟩],((aC y nx (aC x nx f).1).1.length:Int)):=by rw[aC]
theorem fB{n:Nat}: ∀{t:Tr},t.cok n→∀{nx:Int} {f:List Fl},f.length≤(aC t nx f).1.length∧(aC t nx f).1.length≤f.length+t.nodes
 | .node s a [x,y],ht,nx,f=>by
  have hx: ∀nx f,f.length≤(aC x nx f).1.length∧(aC x nx f).1.length≤f.length+x.nodes:=fun nx f=>fB ht.2.2.2.1
  have hy: ∀nx f,f.length≤(aC y nx f).1.length∧(aC y nx f).1.length≤f.length+y.nodes:=fun nx f=>fB ht.2.2.2.2.1
  rw[show(Tr.node s a [x,y]).nodes=1+(x.nodes+y.nodes) by simp[Tr.nodes,Trs.nodes],mb]
  split
  have:=hy nx f;have:=hx (aC y nx f).2 (aC y nx f).1;omega
  have:=hx nx f;have:=hy nx (aC x nx f).1
  simp only[cG,dL];omega
 | .node s a [x],ht,nx,f=>by
  have hx: ∀nx f,f.length≤(aC x nx f).1.length∧(aC x nx f).1.length≤f.length+x.nodes:=fun nx f=>fB ht.2.2.2.1
  rw[show(Tr.node s a [x]).nodes=1+x.nodes by simp[Tr.nodes,Trs.nodes],oE]
  have:=hx f.length (f++[⟨a,0,nx⟩])
  simp only[cG,dL]at this
  simp only[List.length_set];omega
 | .node s a [],ht,nx,f=>by
  rw[show(Tr.node s a []).nodes=1 by simp[Tr.nodes,Trs.nodes],oG]
  simp
 | .node s a (x::y::z::ks),ht,nx,f=>by
  have h1:((x::y::z::ks).length:Int)=bC s.kind:=ht.2.2.1.2
  have h2:=(c7 s.kind).2
  simp only[eH]at h1
  omega
theorem yz{b:List Sm}{k k':Nat}{n:Int}(hn:0<n)(h:fQ (b.drop k) n=some (k'-k))(hk:k≤k'):k<b.length∧k+1≤k'∧fQ (b.drop (k+1)) (n-1+bC (b.getD k default).kind)=some (k'-(k+1)):=by
 have hlt:k<b.length:=by
  rcases Nat.lt_or_ge k b.length with h1|h1
  exact h1
  rw[List.drop_eq_nil_of_le h1,fQ,if_neg (by omega)]at h;cases h
 rw[oy hlt hn,Option.map_eq_some_iff]at h
 obtain⟨q,h1,h2⟩:=h
 exact⟨hlt,by omega,by rw[h1];congr 1;omega⟩
theorem wt{b:List Sm}{k k':Nat}{t:Tr}(h:cD b k=some (t,k')):fQ (b.drop k) 1=some (k'-k)∧k<k'∧k'≤b.length:=by
 obtain⟨h1,h2⟩:=ox h
 have h3:=h2 0 (Int.le_refl _)
 refine⟨?_,jV h⟩
 rw[show(1:Int)=0+1 from Z,h3,lg (Int.le_refl _)]
 simp
theorem A4{b:List Sm}{k k':Nat}{n:Int}(hn:n≤0)(h:fQ (b.drop k) n=some (k'-k))(hk:k≤k'):k=k':=by
 rw[lg hn]at h
 simp only[ef]at h
 omega
abbrev f7(f:List Fl):B:=.row true 3 (f.map Fl.cells)
variable{b:List Sm}{t:Tr}{k:Nat}
theorem IB{k':Nat}(hb:b.length≤1000)(ht:cD b k=some (t,k')):MQ h1 h2 124 [.c (.d (kI b)),eI (k:Nat)] [] (Plain (.tup [eI (k:Nat),eI (k':Nat)])):=by
 refine jB 29 h1 h2 Tryz.func124 Z fun O hF=>?_
 have hs0:=wt ht
 refine ae (ab Z (ba (js Z (ba (ab Z (jn (af (ao (aw (X:=Nat×Int) (fun z=>⟨[(0,.c (.d (kI b))),(1,eI (k:Nat)),(6,eI z.2),(7,eI (z.1:Nat))],[]⟩) (fun z=>z.1≤k'∧0≤z.2∧z.2≤(z.1:Int)+1∧fQ (b.drop z.1) z.2=some (k'-z.1)) (fun z=>k'-z.1) (k,1) (Ent.env ⟨Z,Z,Z,Z,ap⟩) ?_ (fun z hi=>?_))))))))))
 exact⟨by show k≤k';omega,by show(0:Int)≤1;decide,by show(1:Int)≤(k:Int)+1;omega,hs0.1⟩
 refine af (ae (ab Z (jn (ah Z (fun z10=>?_) (fun z10=>?_)))))
 refine aj (ao (af (ae (ab Z ?_))))
 have hpos:=bK z10
 have hsk:=yz hpos hi.2.2.2 hi.1
 refine av (bf O Z Z Z Z Z Z Z Z (dO hsk.1)) Z (ab Z (jn (ao (af (ae (ab Z (jn (ah Z (fun z18=>?_) (fun z18=>?_)))))))))
 refine aj (ah Z (fun z18=>?_) (fun z18=>?_))
 refine ak (js Z (ji Z (js Z (jn (ak (js Z (ji Z (js Z (jn ?_)))))))))
 have hbe:bC (b.getD z.1 default).kind=2:=by unfold bC;rw[if_pos (bK z18)]
 refine⟨(z.1+1,z.2+1),Ent.env ⟨Z,Z,Z,Z,ap⟩,⟨hsk.2.1,by show(0:Int)≤z.2+1;omega,by show z.2+1≤((z.1+1:Nat):Int)+1;omega,?_⟩,by show k'-(z.1+1)<k'-z.1;omega⟩
 rw[show(z.2+1:Int)=z.2-1+bC (b.getD z.1 default).kind by omega]
 exact hsk.2.2
 exact absurd ‹decide ((b.getD z.1 default).kind=1)=true› (by rw[z18];decide)
 refine ak (ab Z (jn (ah Z (fun z18=>?_) (fun z18=>?_))))
 refine ak (js Z (ji Z (js Z (jn (ak (js Z (ji Z (js Z (jn ?_)))))))))
 have hbe:bC (b.getD z.1 default).kind=2:=by unfold bC;rw[bK z18];decide
 refine⟨(z.1+1,z.2+1),Ent.env ⟨Z,Z,Z,Z,ap⟩,⟨hsk.2.1,by show(0:Int)≤z.2+1;omega,by show z.2+1≤((z.1+1:Nat):Int)+1;omega,?_⟩,by show k'-(z.1+1)<k'-z.1;omega⟩
 rw[show(z.2+1:Int)=z.2-1+bC (b.getD z.1 default).kind by omega]
 exact hsk.2.2
 refine ae (ab Z (jn (ah Z (fun z23=>?_) (fun z23=>?_))))
 refine aj (ak (js Z (ji Z (js Z (jn ?_)))))
 have hbe:bC (b.getD z.1 default).kind=1:=by unfold bC;rw[bK z23];decide
 refine⟨(z.1+1,z.2),Ent.env ⟨Z,Z,Z,Z,ap⟩,⟨hsk.2.1,by show(0:Int)≤z.2;omega,by show z.2≤((z.1+1:Nat):Int)+1;omega,?_⟩,by show k'-(z.1+1)<k'-z.1;omega⟩
 rw[show(z.2:Int)=z.2-1+bC (b.getD z.1 default).kind by omega]
 exact hsk.2.2
 refine ak (js Z (ji Z (js Z (jn (ak (js Z (ji Z (js Z (jn ?_)))))))))
 have hne: ¬(b.getD z.1 default).kind=1:=cu ‹decide ((b.getD z.1 default).kind=1)=false›
 have hbe:bC (b.getD z.1 default).kind=0:=by unfold bC;rw[if_neg hne,if_neg (cu z18),if_neg (cu z23)]
 refine⟨(z.1+1,z.2-1),Ent.env ⟨Z,Z,Z,Z,ap⟩,⟨hsk.2.1,by show(0:Int)≤z.2-1;omega,by show z.2-1≤((z.1+1:Nat):Int)+1;omega,?_⟩,by show k'-(z.1+1)<k'-z.1;omega⟩
 rw[show(z.2-1:Int)=z.2-1+bC (b.getD z.1 default).kind by omega]
 exact hsk.2.2
 refine bg (ae (az Z (jr ?_)))
 refine aJ Z ?_
 have he:=A4 (by have:=cu z10;omega) hi.2.2.2 hi.1
 rw[←he]
 exact⟨Z,Z⟩
theorem dj{body:List Sm}{k k':Nat}{s:Sm}{a:Int}{ks:List Tr}(h:cD body k=some (.node s a ks,k')):a=(k:Nat):=by
 rw[oc]at h
 split at h
 cases h
 split at h
 cases h
 simp only[Option.map_eq_some_iff]at h
 obtain⟨⟨ts,k2⟩,h3,h4⟩:=h
 simp only[Prod.mk.injEq,Tr.node.injEq]at h4
 exact h4.1.2.1.symm
theorem e9{f:Nat→Option (Tr×Nat)}{k k':Nat}(h:c6 f 0 k=some ([],k')):k'=k:=by
 simp only[c6,ef,Prod.mk.injEq]at h;exact h.2.symm
theorem cr{f:Nat→Option (Tr×Nat)}{q k k':Nat}{x:Tr}{xs:List Tr}(h:c6 f (q+1) k=some (x::xs,k')): ∃k1,f k=some (x,k1)∧c6 f q k1=some (xs,k'):=by
 unfold c6 at h
 cases hx:f k with
 | none=>rw[hx]at h;cases h
 | some p=>
  obtain⟨t,k1⟩:=p
  rw[hx]at h
  simp only[Option.map_eq_some_iff]at h
  obtain⟨⟨ts1,k2⟩,h1,h2⟩:=h
  simp only[Prod.mk.injEq,List.cons.injEq]at h2
  obtain⟨⟨rfl,rfl⟩,rfl⟩:=h2
  exact⟨k1,Z,h1⟩
theorem ln{k:Int}(h:bC k=1):k=8:=by
 unfold bC at h
 split at h
 omega
 split at h
 omega
 split at h
 assumption
 omega
variable{nx:Int}{f:List Fl}{s:Sm}
theorem C3(hkk:bC s.kind=0)(hk:k<b.length)(hbs:b.getD k default=s)(hb:b.length≤1000)(hf:f.length+Tr.nodes (.node s (k:Nat) [])≤2000):MQ h1 h2 80 [.c (.d (kI b)),eI (k:Nat),eI nx,.c (.rs 0 0 f.length)] [(0,f7 f)] (bb (.tup [.c (.rs 1 0 (aC (.node s (k:Nat) []) nx f).1.length),eI (aC (.node s (k:Nat) []) nx f).2,eI (k+1:Nat)]) [(1,f7 (aC (.node s (k:Nat) []) nx f).1)]):=by
 refine MC.shift 500 Z (jH 132 [500] h1 h2 Tryz.func80 Z fun O hF=>?_)
 refine b0 ?_
 have hne:=je hkk
 have hnd:Tr.nodes (.node s (k:Nat) [])=1:=by simp[Tr.nodes,Trs.nodes]
 rw[oG]
 refine ae (aH Z (jn (af (ae (ab Z (av ((bf O Z Z Z Z Z Z Z Z (dO hk)).cast (v':=ptr (Sm.cells s)) (by rw[hbs])) Z (ab Z (jn (ao (ae (ab Z (jn (ah Z (fun z32=>?_) (fun z32=>?_))))))))))))))
 exact absurd (bK z32) (by omega)
 refine ae (ab Z (jn (ah Z (fun z63=>?_) (fun z63=>?_))))
 exact absurd (bK z63) (by omega)
 refine ae (ab Z (jn (ah Z (fun z94=>?_) (fun z94=>?_))))
 exact absurd (bK z94) (by omega)
 refine aj (ae (az Z (aU (bO O Z Z Z) Z (aq ?_))))
 refine nM (q:=3) O (cJ (zs:=(f++[(⟨(k:Nat),nx,-1⟩:Fl)]).map Fl.cells) (n:=(f++[(⟨(k:Nat),nx,-1⟩:Fl)]).length) O Z Z Z Z Z Z Z Z Z Z Z Z Z Z Z Z (.row Z (bQ _).symm) Z Z (by decide) Z (by simp;omega) (by simp;omega) (by simp) (by simp)) Z Z Z Z Z Z Z Z Z Z Z Z Z Z Z (by omega) Z Z (aq ?_)
 refine js Z (av ((vF Z).cast (v':=eI ((k+1:Nat):Int)) (congrArg eI (by omega))) Z (aH Z (jr ?_)))
 refine⟨.inl Z,_,aa 127 501 Z Z,_,Z,Z,Z⟩
variable{x y:Tr}{k1:Nat}
theorem C2{k2:Nat}(hkk:s.kind=1)(hx:cD b (k+1)=some (x,k1))(ihx: ∀(nx:Int) (f:List Fl),f.length+x.nodes≤2000→MQ h1 h2 80 [.c (.d (kI b)),eI (k+1:Nat),eI nx,.c (.rs 0 0 f.length)] [(0,f7 f)] (bb (.tup [.c (.rs 1 0 (aC x nx f).1.length),eI (aC x nx f).2,eI (k1:Nat)]) [(1,f7 (aC x nx f).1)]))(hlx: ∀(nx:Int) (f:List Fl),f.length≤(aC x nx f).1.length∧(aC x nx f).1.length≤f.length+x.nodes)(ihy: ∀(nx:Int) (f:List Fl),f.length+y.nodes≤2000→MQ h1 h2 80 [.c (.d (kI b)),eI (k1:Nat),eI nx,.c (.rs 0 0 f.length)] [(0,f7 f)] (bb (.tup [.c (.rs 1 0 (aC y nx f).1.length),eI (aC y nx f).2,eI (k2:Nat)]) [(1,f7 (aC y nx f).1)]))(hly: ∀(nx:Int) (f:List Fl),f.length≤(aC y nx f).1.length∧(aC y nx f).1.length≤f.length+y.nodes)(hk:k<b.length)(hbs:b.getD k default=s)(hb:b.length≤1000)(hf:f.length+Tr.nodes (.node s (k:Nat) [x,y])≤2000):MQ h1 h2 80 [.c (.d (kI b)),eI (k:Nat),eI nx,.c (.rs 0 0 f.length)] [(0,f7 f)] (bb (.tup [.c (.rs 1 0 (aC (.node s (k:Nat) [x,y]) nx f).1.length),eI (aC (.node s (k:Nat) [x,y]) nx f).2,eI (k2:Nat)]) [(1,f7 (aC (.node s (k:Nat) [x,y]) nx f).1)]):=by
 refine MC.shift 500 Z (jH 132 [500] h1 h2 Tryz.func80 Z fun O hF=>?_)
 refine b0 ?_
 have hnd:Tr.nodes (.node s (k:Nat) [x,y])=1+(x.nodes+y.nodes):=by simp[Tr.nodes,Trs.nodes]
 have h9:=hly nx f
 rw[mb,if_pos hkk]
 refine ae (aH Z (jn (af (ae (ab Z (av ((bf O Z Z Z Z Z Z Z Z (dO hk)).cast (v':=ptr (Sm.cells s)) (by rw[hbs])) Z (ab Z (jn (ao (ae (ab Z (jn (ah Z (fun z32=>?_) (fun z32=>?_))))))))))))))
 refine ae (ab Z (av ((vF Z).cast (v':=eI ((k+1:Nat):Int)) (congrArg eI (by omega))) Z (an O Z Z Z Z (IB (b:=b) h1 h2 hb hx) (ac Z) Z Z Z Z (B0:=39000) Z Z (az Z (js Z (ba (az Z (au O [500] (bin:=[f7 f]) Z Z Z Z (ihy nx f (by omega)) Z Z Z Z Z Z (B0:=47000) Z Z (aq ?_)))))))))
 refine az Z (aH Z (ba (ab Z (av ((vF Z).cast (v':=eI ((k+1:Nat):Int)) (congrArg eI (by omega))) Z (ab Z (au O [47001] (bin:=[f7 (aC y nx f).1]) Z Z Z Z (ihx (aC y nx f).2 (aC y nx f).1 (by omega)) Z Z Z Z Z Z (B0:=57000) Z Z (aq ?_)))))))
 refine az Z (aH Z (ba (az Z (ab Z (jr ?_)))))
 refine⟨.inl Z,_,aa 57001 501 Z Z,_,Z,Z,Z⟩
 exact absurd (cu z32) (by omega)
theorem C1{k2:Nat}(hkk:s.kind=7)(ihx: ∀(nx:Int) (f:List Fl),f.length+x.nodes≤2000→MQ h1 h2 80 [.c (.d (kI b)),eI (k+1:Nat),eI nx,.c (.rs 0 0 f.length)] [(0,f7 f)] (bb (.tup [.c (.rs 1 0 (aC x nx f).1.length),eI (aC x nx f).2,eI (k1:Nat)]) [(1,f7 (aC x nx f).1)]))(hlx: ∀(nx:Int) (f:List Fl),f.length≤(aC x nx f).1.length∧(aC x nx f).1.length≤f.length+x.nodes)(ihy: ∀(nx:Int) (f:List Fl),f.length+y.nodes≤2000→MQ h1 h2 80 [.c (.d (kI b)),eI (k1:Nat),eI nx,.c (.rs 0 0 f.length)] [(0,f7 f)] (bb (.tup [.c (.rs 1 0 (aC y nx f).1.length),eI (aC y nx f).2,eI (k2:Nat)]) [(1,f7 (aC y nx f).1)]))(hly: ∀(nx:Int) (f:List Fl),f.length≤(aC y nx f).1.length∧(aC y nx f).1.length≤f.length+y.nodes)(hk:k<b.length)(hbs:b.getD k default=s)(hb:b.length≤1000)(hf:f.length+Tr.nodes (.node s (k:Nat) [x,y])≤2000):MQ h1 h2 80 [.c (.d (kI b)),eI (k:Nat),eI nx,.c (.rs 0 0 f.length)] [(0,f7 f)] (bb (.tup [.c (.rs 1 0 (aC (.node s (k:Nat) [x,y]) nx f).1.length),eI (aC (.node s (k:Nat) [x,y]) nx f).2,eI (k2:Nat)]) [(1,f7 (aC (.node s (k:Nat) [x,y]) nx f).1)]):=by
 refine MC.shift 500 Z (jH 132 [500] h1 h2 Tryz.func80 Z fun O hF=>?_)
 refine b0 ?_
 have hnd:Tr.nodes (.node s (k:Nat) [x,y])=1+(x.nodes+y.nodes):=by simp[Tr.nodes,Trs.nodes]
 have h9:=hlx nx f
 have h8:=hly nx (aC x nx f).1
 rw[mb,if_neg (by omega)]
 refine ae (aH Z (jn (af (ae (ab Z (av ((bf O Z Z Z Z Z Z Z Z (dO hk)).cast (v':=ptr (Sm.cells s)) (by rw[hbs])) Z (ab Z (jn (ao (ae (ab Z (jn (ah Z (fun z32=>?_) (fun z32=>?_))))))))))))))
 exact absurd (bK z32) (by omega)
 refine ae (ab Z (jn (ah Z (fun z63=>?_) (fun z63=>?_))))
 refine ae (ab Z (av ((vF Z).cast (v':=eI ((k+1:Nat):Int)) (congrArg eI (by omega))) Z (ab Z (au O [500] (bin:=[f7 f]) Z Z Z Z (ihx nx f (by omega)) Z Z Z Z Z Z (B0:=72000) Z Z (aq ?_)))))
 refine az Z (aH Z (ba (az Z (au O [72001] (bin:=[f7 (aC x nx f).1]) Z Z Z Z (ihy nx (aC x nx f).1 (by omega)) Z Z Z Z Z Z (B0:=81000) Z Z (aq ?_)))))
 refine az Z (aH Z (ba (az Z (js Z (aU (bO O Z Z Z) Z (aq ?_))))))
 refine nM (q:=18) O (cJ (zs:=((aC y nx (aC x nx f).1).1++[(⟨(k:Nat),(aC x nx f).2,(aC y nx (aC x nx f).1).2⟩:Fl)]).map Fl.cells) (n:=((aC y nx (aC x nx f).1).1++[(⟨(k:Nat),(aC x nx f).2,(aC y nx (aC x nx f).1).2⟩:Fl)]).length) O Z Z Z Z Z Z Z Z Z Z Z Z Z Z Z Z (.row Z (bQ _).symm) Z Z (by decide) Z (by simp;omega) (by simp;omega) (by simp) (by simp)) Z Z Z Z Z Z Z Z Z Z Z Z Z Z Z (by omega) Z Z (aq ?_)
 refine az Z (jr ?_)
 refine⟨.inl Z,_,aa 90 501 Z Z,_,Z,Z,Z⟩
 exact absurd (cu z63) (by omega)
theorem C0(hkk:s.kind=8)(ihx: ∀(nx:Int) (f:List Fl),f.length+x.nodes≤2000→MQ h1 h2 80 [.c (.d (kI b)),eI (k+1:Nat),eI nx,.c (.rs 0 0 f.length)] [(0,f7 f)] (bb (.tup [.c (.rs 1 0 (aC x nx f).1.length),eI (aC x nx f).2,eI (k1:Nat)]) [(1,f7 (aC x nx f).1)]))(hlx: ∀(nx:Int) (f:List Fl),f.length≤(aC x nx f).1.length∧(aC x nx f).1.length≤f.length+x.nodes)(hk:k<b.length)(hbs:b.getD k default=s)(hb:b.length≤1000)(hf:f.length+Tr.nodes (.node s (k:Nat) [x])≤2000):MQ h1 h2 80 [.c (.d (kI b)),eI (k:Nat),eI nx,.c (.rs 0 0 f.length)] [(0,f7 f)] (bb (.tup [.c (.rs 1 0 (aC (.node s (k:Nat) [x]) nx f).1.length),eI (aC (.node s (k:Nat) [x]) nx f).2,eI (k1:Nat)]) [(1,f7 (aC (.node s (k:Nat) [x]) nx f).1)]):=by
 refine MC.shift 500 Z (jH 132 [500] h1 h2 Tryz.func80 Z fun O hF=>?_)
 refine b0 ?_
 have hnd:Tr.nodes (.node s (k:Nat) [x])=1+x.nodes:=by simp[Tr.nodes,Trs.nodes]
 have h9:=hlx (f.length:Nat) (f++[(⟨(k:Nat),0,nx⟩:Fl)])
 have h8:(f++[(⟨(k:Nat),0,nx⟩:Fl)]).length=f.length+1:=by simp
 rw[oE]
 refine ae (aH Z (jn (af (ae (ab Z (av ((bf O Z Z Z Z Z Z Z Z (dO hk)).cast (v':=ptr (Sm.cells s)) (by rw[hbs])) Z (ab Z (jn (ao (ae (ab Z (jn (ah Z (fun z32=>?_) (fun z32=>?_))))))))))))))
 exact absurd (bK z32) (by omega)
 refine ae (ab Z (jn (ah Z (fun z63=>?_) (fun z63=>?_))))
 exact absurd (bK z63) (by omega)
 refine ae (ab Z (jn (ah Z (fun z94=>?_) (fun z94=>?_))))
 refine ae (js Z (dv Z Z (js Z (ba (az Z (aU (bO O Z Z Z) Z (aq ?_)))))))
 refine aU (cJ (zs:=(f++[(⟨(k:Nat),0,nx⟩:Fl)]).map Fl.cells) (n:=(f++[(⟨(k:Nat),0,nx⟩:Fl)]).length) O Z Z Z Z Z Z Z Z Z Z Z Z Z Z Z Z (.row Z (bQ _).symm) Z Z (by decide) Z (by simp;omega) (by simp;omega) (by simp) (by simp)) Z (aq ?_)
 refine aq ?_
 refine js Z (ba (ab Z (av ((vF Z).cast (v':=eI ((k+1:Nat):Int)) (congrArg eI (by omega))) Z (ab Z (au O [103] (bin:=[f7 (f++[(⟨(k:Nat),0,nx⟩:Fl)])]) Z Z Z Z (ihx (f.length:Nat) (f++[(⟨(k:Nat),0,nx⟩:Fl)]) (by omega)) Z Z Z Z Z Z (B0:=111000) Z Z (aq ?_))))))
 refine az Z (aH Z (ba (aH Z (dv Z Z (js Z (aU (ca (ex:=Fl.cells ((aC x (f.length:Nat) (f++[(⟨(k:Nat),0,nx⟩:Fl)])).1.getD f.length default)) (xs':=((aC x (f.length:Nat) (f++[(⟨(k:Nat),0,nx⟩:Fl)])).1.set f.length ⟨((aC x (f.length:Nat) (f++[(⟨(k:Nat),0,nx⟩:Fl)])).1.getD f.length default).stmt,(aC x (f.length:Nat) (f++[(⟨(k:Nat),0,nx⟩:Fl)])).2,((aC x (f.length:Nat) (f++[(⟨(k:Nat),0,nx⟩:Fl)])).1.getD f.length default).other⟩).map Fl.cells) O Z Z Z Z Z Z Z Z Z Z Z Z Z Z (GP (by omega) (by omega)) (GJ (v:=(⟨((aC x (f.length:Nat) (f++[(⟨(k:Nat),0,nx⟩:Fl)])).1.getD f.length default).stmt,(aC x (f.length:Nat) (f++[(⟨(k:Nat),0,nx⟩:Fl)])).2,((aC x (f.length:Nat) (f++[(⟨(k:Nat),0,nx⟩:Fl)])).1.getD f.length default).other⟩:Fl)) (by omega) Z)) Z (aq ?_)))))))
 refine ba (az Z (ab Z (jr ?_)))
 rw[List.length_set]
 refine⟨.inl Z,_,aa 111001 501 Z Z,_,Z,Z,Z⟩
 exact absurd (cu z94) (by omega)
theorem uh{L:Nat}(h1:4096≤L)(h2:L≤1073741824){b:List Sm}(hb:b.length≤1000): ∀{t:Tr} {k k':Nat},cD b k=some (t,k')→t.cok b.length→∀(nx:Int) (f:List Fl),f.length+t.nodes≤2000→MC Tryz.prog L 80 [.c (.d (kI b)),eI (k:Nat),eI nx,.c (.rs 0 0 f.length)] [(0,f7 f)] (bb (.tup [.c (.rs 1 0 (aC t nx f).1.length),eI (aC t nx f).2,eI (k':Nat)]) [(1,f7 (aC t nx f).1)])
 | .node s a [x,y],k,k',h,ht,nx,f,hf=>by
  obtain⟨e1,e2,e3,e4,e5⟩:=cx h
  obtain rfl:=dj h
  obtain⟨k1,i1,i2⟩:=cr e4
  obtain⟨k2,i3,i4⟩:=cr i2
  obtain rfl:=e9 i4
  have hxy:=fun nx f h=>uh h1 h2 hb i1 ht.2.2.2.1 nx f h
  have hyy:=fun nx f h=>uh h1 h2 hb i3 ht.2.2.2.2.1 nx f h
  by_cases hk:s.kind=1
  exact C2 h1 h2 hk i1 hxy (fun nx f=>fB ht.2.2.2.1) hyy (fun nx f=>fB ht.2.2.2.2.1) e1 e2.symm hb hf
  have hk7:s.kind=7:=by
   have h3:bC s.kind=2:=e5.symm
   unfold bC at h3
   split at h3
   omega
   split at h3
   assumption
   split at h3<;>omega
  exact C1 h1 h2 hk7 hxy (fun nx f=>fB ht.2.2.2.1) hyy (fun nx f=>fB ht.2.2.2.2.1) e1 e2.symm hb hf
 | .node s a [x],k,k',h,ht,nx,f,hf=>by
  obtain⟨e1,e2,e3,e4,e5⟩:=cx h
  obtain rfl:=dj h
  obtain⟨k1,i1,i2⟩:=cr e4
  obtain rfl:=e9 i2
  exact C0 h1 h2 (ln e5.symm) (fun nx f h=>uh h1 h2 hb i1 ht.2.2.2.1 nx f h) (fun nx f=>fB ht.2.2.2.1) e1 e2.symm hb hf
 | .node s a [],k,k',h,ht,nx,f,hf=>by
  obtain⟨e1,e2,e3,e4,e5⟩:=cx h
  obtain rfl:=dj h
  obtain rfl:=e9 e4
  exact C3 h1 h2 e5.symm e1 e2.symm hb hf
 | .node s a (x::y::z::ks),k,k',h,ht,nx,f,hf=>by
  have h1:((x::y::z::ks).length:Int)=bC s.kind:=ht.2.2.1.2
  have h2:=(c7 s.kind).2
  simp only[eH]at h1
  omega
structure Ext(b:List Sm)(f g:List Fl):Prop where
  len:f.length≤g.length
  stmt: ∀i,i<f.length→(g.getD i default).stmt=(f.getD i default).stmt
  same: ∀i,i<f.length→∀k:Nat,(f.getD i default).stmt=(k:Nat)→(b.getD k default).kind≠8→g.getD i default=f.getD i default
theorem Ext.trans{b:List Sm}{f g h:List Fl}(a:Ext b f g)(c:Ext b g h):Ext b f h:=
  ⟨Nat.le_trans a.len c.len,fun i hi=>(c.stmt i (Nat.lt_of_lt_of_le hi a.len)).trans (a.stmt i hi),fun i hi k hk h8=>(c.same i (Nat.lt_of_lt_of_le hi a.len) k ((a.stmt i hi).trans hk) h8).trans (a.same i hi k hk h8)⟩
theorem fz{f:List Fl}{x:Fl}{i:Nat}(h:i<f.length):(f++[x]).getD i default=f.getD i default:=by
 simp[List.getD_eq_getElem?_getD,List.getElem?_append_left h]
theorem fc{f:List Fl}{x:Fl}:(f++[x]).getD f.length default=x:=by simp[List.getD_eq_getElem?_getD]
theorem Ext.app{b:List Sm}{f:List Fl}{x:Fl}:Ext b f (f++[x]):=⟨by simp,fun i hi=>by rw[fz hi],fun i hi _ _ _=>fz hi⟩
theorem Ext.set{b:List Sm}{f:List Fl}{n k:Nat}{v:Int}(hn:n<f.length)(hs:(f.getD n default).stmt=(k:Nat))(h8:(b.getD k default).kind=8):Ext b f (f.set n ⟨(f.getD n default).stmt,v,(f.getD n default).other⟩):=by
 refine⟨by simp,fun i hi=>?_,fun i hi j hj hne=>?_⟩
 by_cases e:i=n
 subst e;simp[List.getD_eq_getElem?_getD,List.getElem?_set,hi]
 simp[List.getD_eq_getElem?_getD,List.getElem?_set,Ne.symm e]
 have e:i≠n:=by
  rintro rfl
  rw[hs]at hj
  have:j=k:=by omega
  subst this
  exact hne h8
 simp[List.getD_eq_getElem?_getD,List.getElem?_set,Ne.symm e]
theorem Pl.ext{b:List Sm}{f g:List Fl}(h:Ext b f g){i:Int}{r:List Fr}(p:Pl b f i r):Pl b g i r:=by
 induction p with
 | nil=>exact .nil
 | lp hi hs hk hb=>exact .lp (Nat.lt_of_lt_of_le hi h.len) ((h.stmt _ hi).trans hs) hk hb
 | @leaf i k r hi hs hk hb p ih=>
  have hne:=je hb
  refine .leaf (Nat.lt_of_lt_of_le hi h.len) ((h.stmt _ hi).trans hs) hk hb ?_
  rw[h.same _ hi _ hs hne.2.2];exact ih
 | seq hb p ih=>exact .seq hb ih
 | @cond i k x y r hi hs hk hb p1 p2 ih1 ih2=>
  have hne:(b.getD k default).kind≠8:=by omega
  refine .cond (Nat.lt_of_lt_of_le hi h.len) ((h.stmt _ hi).trans hs) hk hb ?_ ?_
  rw[h.same _ hi _ hs hne];exact ih1
  rw[h.same _ hi _ hs hne];exact ih2
 | loop hi hs hk hb=>exact .loop (Nat.lt_of_lt_of_le hi h.len) ((h.stmt _ hi).trans hs) hk hb
structure Lp where
  s:Sm
  a:Nat
  x:Tr
  r:List Fr
def bo(b:List Sm):Tr→List Fr→List Lp
  | .node s a [x,y],r=>if s.kind=1 then bo b x (.st y::r)++bo b y r else bo b x r++bo b y r
  | .node s a [x],r=>⟨s,a.toNat,x,r⟩::bo b x [.lp (br b a.toNat)]
  | _,_=>[]
def LpAt(b:List Sm)(f:List Fl)(i:Nat)(q:Lp):Prop:=
  i<f.length∧(f.getD i default).stmt=(q.a:Nat)∧Pl b f (f.getD i default).next [.st q.x,.lp (br b q.a)]∧Pl b f (f.getD i default).other q.r
structure Bld(b:List Sm)(t:Tr)(r:List Fr)(f:List Fl)(g:List Fl×Int):Prop where
  ext:Ext b f g.1
  pl:Pl b g.1 g.2 (.st t::r)
  old: ∀i,i<f.length→g.1.getD i default=f.getD i default
  new: ∀i,f.length≤i→i<g.1.length→∀k:Nat,(g.1.getD i default).stmt=(k:Nat)→(b.getD k default).kind=8→∃q∈bo b t r,LpAt b g.1 i q
  all: ∀q∈bo b t r,∃i,f.length≤i∧LpAt b g.1 i q
theorem LpAt.ext{b:List Sm}{f g:List Fl}{i:Nat}{q:Lp}(h:LpAt b f i q)(he:Ext b f g)(ho:g.getD i default=f.getD i default):LpAt b g i q:=by
 obtain⟨h1,h2,h3,h4⟩:=h
 refine⟨Nat.lt_of_lt_of_le h1 he.len,by rw[ho];exact h2,by rw[ho];exact h3.ext he,by rw[ho];exact h4.ext he⟩
theorem e8{b:List Sm}{s:Sm}{a:Int}{x y:Tr}{r:List Fr}:bo b (.node s a [x,y]) r=if s.kind=1 then bo b x (.st y::r)++bo b y r else bo b x r++bo b y r:=by rw[bo]
theorem jW{b:List Sm}{s:Sm}{a:Int}{x:Tr}{r:List Fr}:bo b (.node s a [x]) r=⟨s,a.toNat,x,r⟩::bo b x [.lp (br b a.toNat)]:=by rw[bo]
theorem jX{b:List Sm}{s:Sm}{a:Int}{r:List Fr}:bo b (.node s a []) r=[]:=by rw[bo]<;>simp
theorem gB{b:List Sm}: ∀{t:Tr} {k k':Nat},cD b k=some (t,k')→∀{nx:Int} {f:List Fl} {r:List Fr},Pl b f nx r→Bld b t r f (aC t nx f)
 | .node s a [x,y],k,k',h,nx,f,r,hp=>by
  obtain⟨e1,rfl,e3,e4,e5⟩:=cx h
  obtain rfl:=dj h
  obtain⟨k1,i1,i2⟩:=cr e4
  obtain⟨k2,i3,i4⟩:=cr i2
  rw[mb]
  by_cases hk:(b.getD k default).kind=1
  rw[if_pos hk]
  have hy:=gB i3 hp
  have hx:=gB i1 hy.pl
  have hl:=hy.ext.len
  refine⟨hy.ext.trans hx.ext,.seq hk hx.pl,fun i hi=>(hx.old i (by omega)).trans (hy.old i hi),fun i h1 h2 j h3 h4=>?_,fun q hq=>?_⟩
  rw[e8,if_pos hk]
  rcases Nat.lt_or_ge i (aC y nx f).1.length with h5|h5
  rw[hx.old i h5]at h3
  obtain⟨q,hq,hl⟩:=hy.new i h1 h5 j h3 h4
  exact⟨q,List.mem_append_right _ hq,hl.ext hx.ext (hx.old i h5)⟩
  obtain⟨q,hq,hl⟩:=hx.new i h5 h2 j h3 h4
  exact⟨q,List.mem_append_left _ hq,hl⟩
  rw[e8,if_pos hk]at hq
  rcases List.mem_append.1 hq with hq|hq
  obtain⟨i,h1,h2⟩:=hx.all q hq;exact⟨i,by omega,h2⟩
  obtain⟨i,h1,h2⟩:=hy.all q hq;exact⟨i,h1,h2.ext hx.ext (hx.old i h2.1)⟩
  rw[if_neg hk]
  have hk7:(b.getD k default).kind=7:=by
   have h3:bC (b.getD k default).kind=2:=e5.symm
   unfold bC at h3
   split at h3
   omega
   split at h3
   assumption
   split at h3<;>omega
  have hx:=gB i1 hp
  have hy:=gB i3 (hp.ext hx.ext)
  have hl:=hx.ext.len
  have hl2:=hy.ext.len
  have hE:Ext b (aC y nx (aC x nx f).1).1 ((aC y nx (aC x nx f).1).1++[⟨((k:Nat):Int),(aC x nx f).2,(aC y nx (aC x nx f).1).2⟩]):=Ext.app
  refine⟨(hx.ext.trans hy.ext).trans hE,?_,fun i hi=>(fz (by omega)).trans ((hy.old i (by omega)).trans (hx.old i hi)),fun i h1 h2 j h3 h4=>?_,fun q hq=>?_⟩
  refine .cond (by simp) (by rw[fc]) e1 hk7 ?_ ?_
  rw[fc];exact(hx.pl.ext hy.ext).ext hE
  rw[fc];exact hy.pl.ext hE
  rw[e8,if_neg hk]
  simp only[cG,dL]at h2
  rcases Nat.lt_or_ge i (aC y nx (aC x nx f).1).1.length with h6|h6
  rw[fz h6]at h3
  rcases Nat.lt_or_ge i (aC x nx f).1.length with h5|h5
  rw[hy.old i h5]at h3
  obtain⟨q,hq,hl⟩:=hx.new i h1 h5 j h3 h4
  exact⟨q,List.mem_append_left _ hq,(hl.ext hy.ext (hy.old i h5)).ext hE (fz h6)⟩
  obtain⟨q,hq,hl⟩:=hy.new i h5 h6 j h3 h4
  exact⟨q,List.mem_append_right _ hq,hl.ext hE (fz h6)⟩
  obtain rfl:i=(aC y nx (aC x nx f).1).1.length:=by omega
  rw[fc]at h3
  have:j=k:=by have h3:((k:Nat):Int)=(j:Nat):=h3;omega
  subst this
  omega
  rw[e8,if_neg hk]at hq
  rcases List.mem_append.1 hq with hq|hq
  obtain⟨i,h1,h2⟩:=hx.all q hq;exact⟨i,h1,(h2.ext hy.ext (hy.old i h2.1)).ext hE (fz (Nat.lt_of_lt_of_le h2.1 hl2))⟩
  obtain⟨i,h1,h2⟩:=hy.all q hq;exact⟨i,by omega,h2.ext hE (fz h2.1)⟩
 | .node s a [x],k,k',h,nx,f,r,hp=>by
  obtain⟨e1,rfl,e3,e4,e5⟩:=cx h
  obtain rfl:=dj h
  obtain⟨k1,i1,i2⟩:=cr e4
  have hk8:(b.getD k default).kind=8:=ln e5.symm
  rw[oE]
  have hE0:Ext b f (f++[⟨((k:Nat):Int),0,nx⟩]):=Ext.app
  have hl0:(f++[(⟨((k:Nat):Int),0,nx⟩:Fl)]).length=f.length+1:=by simp
  have p0:Pl b (f++[⟨((k:Nat):Int),0,nx⟩]) (f.length:Nat) [.lp (br b k)]:=.lp (by simp) (by rw[fc]) e1 hk8
  have hx:=gB i1 p0
  have hlx:=hx.ext.len
  obtain⟨R,hR⟩: ∃R,R=aC x (f.length:Nat) (f++[⟨((k:Nat):Int),0,nx⟩]):=⟨_,rfl⟩
  rw[←hR]at hx hlx ⊢
  have hold:=hx.old f.length (by omega)
  rw[fc]at hold
  have hES:Ext b R.1 (R.1.set f.length ⟨(R.1.getD f.length default).stmt,R.2,(R.1.getD f.length default).other⟩):=Ext.set (k:=k) (by omega) (by rw[hold]) hk8
  have hnew:(R.1.set f.length ⟨(R.1.getD f.length default).stmt,R.2,(R.1.getD f.length default).other⟩).getD f.length default=⟨((k:Nat):Int),R.2,nx⟩:=by
   rw[hold];simp[List.getD_eq_getElem?_getD,List.getElem?_set,show f.length<R.1.length by omega]
  have hoth: ∀i,i≠f.length→(R.1.set f.length ⟨(R.1.getD f.length default).stmt,R.2,(R.1.getD f.length default).other⟩).getD i default=R.1.getD i default:=fun i hi=>by
   simp[List.getD_eq_getElem?_getD,List.getElem?_set,Ne.symm hi]
  have hE:=(hE0.trans hx.ext).trans hES
  have hself:LpAt b (R.1.set f.length ⟨(R.1.getD f.length default).stmt,R.2,(R.1.getD f.length default).other⟩) f.length ⟨b.getD k default,k,x,r⟩:=by
   refine⟨by simp;omega,by rw[hnew],?_,?_⟩
   rw[hnew];exact hx.pl.ext hES
   rw[hnew];exact hp.ext hE
  refine⟨hE,.loop (by simp;omega) (by rw[hnew]) e1 hk8,fun i hi=>(hoth i (by omega)).trans ((hx.old i (by omega)).trans (fz hi)),fun i h1 h2 j h3 h4=>?_,fun q hq=>?_⟩
  rw[jW]
  by_cases e:i=f.length
  subst e;exact⟨_,List.mem_cons_self,hself⟩
  rw[hoth i e]at h3
  simp only[List.length_set]at h2
  obtain⟨q,hq,hl⟩:=hx.new i (by omega) h2 j h3 h4
  exact⟨q,List.mem_cons_of_mem _ hq,hl.ext hES (hoth i e)⟩
  rw[jW]at hq
  rcases List.mem_cons.1 hq with rfl|hq
  exact⟨f.length,da _,hself⟩
  obtain⟨i,h1,h2⟩:=hx.all q hq;exact⟨i,by omega,h2.ext hES (hoth i (by omega))⟩
 | .node s a [],k,k',h,nx,f,r,hp=>by
  obtain⟨e1,rfl,e3,e4,e5⟩:=cx h
  obtain rfl:=dj h
  have h0:bC (b.getD k default).kind=0:=e5.symm
  have hne:=je h0
  rw[oG]
  refine⟨Ext.app,.leaf (by simp) (by rw[fc]) e1 h0 (by rw[fc];exact hp.ext Ext.app),fun i hi=>fz hi,fun i h1 h2 j h3 h4=>?_,fun q hq=>by rw[jX]at hq;cases hq⟩
  simp only[cG,dL]at h2
  obtain rfl:i=f.length:=by omega
  rw[fc]at h3
  have:j=k:=by have h3:((k:Nat):Int)=(j:Nat):=h3;omega
  subst this
  exact absurd h4 hne.2.2
 | .node s a (x::y::z::ks),k,k',h,nx,f,r,hp=>by
  obtain⟨e1,rfl,e3,e4,e5⟩:=cx h
  have h2:=(c7 (b.getD k default).kind).2
  simp only[eH]at e5
  omega
def rI(b:List Sm):Nat→List Int
  | 0=>[]
  | i+1=>rI b i++if(b.getD i default).kind=8 then[(i:Int)]else[]
theorem i8{b:List Sm}: ∀{i:Nat},(rI b i).length=br b i
 | 0=>rfl
 | i+1=>by rw[rI,br,cG,i8];split<;>simp
theorem gY{b:List Sm}{i j:Nat}(h:i≤j):br b i≤br b j:=by
 induction h with
 | refl=>exact da _
 | step _ ih=>rw[br];omega
theorem vS{b:List Sm}: ∀{j i:Nat},i<j→(b.getD i default).kind=8→(rI b j).getD (br b i) default=(i:Int)
 | j+1,i,hi,h8=>by
  rw[rI]
  rcases Nat.lt_or_ge i j with h|h
  have h1:=gY (b:=b) (show i+1≤j by omega)
  rw[br,if_pos h8]at h1
  rw[List.getD_eq_getElem?_getD,List.getElem?_append_left (by rw[i8];omega),←List.getD_eq_getElem?_getD]
  exact vS h h8
  obtain rfl:i=j:=by omega
  rw[if_pos h8,List.getD_eq_getElem?_getD,List.getElem?_append_right (by rw[i8];exact da _),i8]
  simp
variable{pre post:List Tm}
theorem z3(hb:b.length≤1000):MQ h1 h2 51 [ptr [fC pre,kI b,fC post]] [] (Plain (ce (rI b b.length))):=by
 refine MC.data (jB 29 h1 h2 Tryz.func51 Z fun O hF=>?_)
 refine ae (js Z (ba (aU (bO O Z Z Z) Z (js Z (jn (af (ae (js Z (jn (ao (aw (X:=Nat) (fun i=>⟨[(0,ptr [fC pre,kI b,fC post]),(3,.c (.rs 900 0 (rI b i).length)),(4,eI i)],[(900,aO (rI b i))]⟩) (fun i=>i≤b.length) (fun i=>b.length-i) 0 ((aa 5 900 Z Z).trans (Ent.to ⟨Z,Z,Z,ap⟩ Z)) ?_ (fun i hi=>?_))))))))))))
 exact cT _
 refine af (ae (az Z (js Z (dh Z (js Z (jn (ah Z (fun z12=>?_) (fun z12=>?_))))))))
 refine aj (af (ao (ae (az Z (js Z ?_)))))
 have hil:i<b.length:=by have:=bK z12;omega
 have hwl:=i8 (b:=b) (i:=i)
 have hwn:=gS (b:=b) (k:=i)
 refine av (bf O Z Z Z Z Z Z Z Z (dO hil)) Z (aH Z (jn (ah Z (fun z23=>?_) (fun z23=>?_))))
 refine ak (ab Z (aU (bO O Z Z Z) Z (aU (cJ (zs:=(rI b i++[(i:Int)]).map fun n=>[.int .i64 n]) (n:=(rI b i++[(i:Int)]).length) O Z Z Z Z Z Z Z Z Z Z Z Z Z Z Z Z (.row Z (by simp)) Z Z (by decide) Z (by simp;omega) (by simp;omega) (by simp) (by simp)) Z (js Z (jn (ak (js Z (ji Z (js Z (jn ?_))))))))))
 have hw:rI b (i+1)=rI b i++[(i:Int)]:=by rw[rI,if_pos (bK z23)]
 refine⟨i+1,((am [27] (e':=[(0,_),(3,_),(4,_)]) Z Z ⟨Z,Z,Z,ap⟩ Z).trans (aa 27 900 Z Z)).trans (Ent.to ⟨Z,by rw[hw];rfl,Z,ap⟩ (by rw[hw];rfl)),by omega,by omega⟩
 refine aj (ak (js Z (ji Z (js Z (jn ?_)))))
 have hw:rI b (i+1)=rI b i:=by rw[rI,if_neg (cu z23),List.append_nil]
 refine⟨i+1,(am [900] (e':=[(0,_),(3,_),(4,_)]) Z Z ⟨Z,Z,Z,ap⟩ Z).trans (Ent.to ⟨Z,by rw[hw];rfl,Z,ap⟩ (by rw[hw];rfl)),by omega,by omega⟩
 refine bg (ae (ab Z (jr ?_)))
 refine aJ Z ?_
 obtain rfl:i=b.length:=by have:=cu z12;omega
 exact .v (.c (.whole Z (bQ _).symm))
theorem FR:MQ h1 h2 82 [ptr [fC pre,kI b,fC post],eI (-1)] [] (Plain (cb pre)):=by
 refine MC.data (jB 25 h1 h2 Tryz.func82 Z fun O hF=>?_)
 refine ae (js Z (jn (af (ae (ab Z (jn (ah Z (fun z6=>?_) (fun z6=>?_))))))))
 refine ae (az Z (an O Z Z Z Z (Dh (ts:=pre) h1 h2) (ac Z) Z Z Z Z (B0:=12000) Z Z (js Z (jr ?_))))
 refine aJ Z ?_
 exact .v (.c .d)
 exact absurd z6 (by decide)
variable{n:Nat}
theorem FQ{i:Nat}(hb:b.length≤1000)(hi:i<b.length)(hn:n<br b b.length)(hw:(rI b b.length).getD n default=(i:Int)):MQ h1 h2 82 [ptr [fC pre,kI b,fC post],eI (n:Nat)] [] (Plain (cb (b.getD i default).facts)):=by
 refine MC.data (jB 25 h1 h2 Tryz.func82 Z fun O hF=>?_)
 have hwl:=i8 (b:=b) (i:=b.length)
 refine ae (js Z (jn (af (ae (ab Z (jn (ah Z (fun z6=>?_) (fun z6=>?_))))))))
 exact absurd (bK z6) (by omega)
 refine aj (af (jw [5,0,1] Z (fZ [_,_,_,_,_,_,_,_,_,_,_,_,_,_] [pn [] 0 1,pn [0] 0 1,pn [0,1] 0 1,pn [0,1,2] 0 1,aF,pe [4] 0,pn [] 0 1,pn [4,5,6] 1 1,pn (rg 4 4) 1 1,pn (rg 0 9) 1 1,pn (rg 0 10) 1 1,pn (rg 0 11) 1 1,pe (rg 0 12) 1,pn (rg 0 13) 2 2] [5,12] [_,_,_] (ai (kc Z (V Z)) (ai (kc Z (V Z)) (ai (kc Z (V Z)) (ai (kc Z (V Z)) (kc Z (ai (bR O (B0:=18000) Z Z Z Z (z3 (pre:=pre) (post:=post) (b:=b) h1 h2 hb) (ac Z) Z Z Z Z Z) (ai (kc Z (V Z)) (ai ((bf O Z Z Z Z Z Z Z Z (dO (by omega))).cast (v':=ptr [.int .i64 (i:Nat)]) (by rw[hw])) (kc Z (ai (bf O Z Z Z Z Z Z Z Z (dO hi)) (kc Z (kc Z (ai (bR O (B0:=25000) Z Z Z Z (Dh (ts:=(b.getD i default).facts) h1 h2) (ac Z) Z Z Z Z Z) (kc Z trivial)))))))))))))) ?_)))
 refine jw [4,5,0,1] Z (b0 ?_)
 refine ea ?_
 refine aJ Z ?_
 exact .v (.c .d)
def mN(i:Nat):List Tm:=(List.range i).map iV
theorem kj{i:Nat}:(mN i).length=i:=by simp[mN]
theorem um{i:Nat}:mN (i+1)=mN i++[iV i]:=by simp[mN,List.range_succ]
theorem DS:MQ h1 h2 81 [] [] (Plain (cb (mN 4))):=by
 refine MC.data (jB 22 h1 h2 Tryz.func81 Z fun O hF=>?_)
 refine ae (js Z (ba (aU (bO O Z Z Z) Z (aq ?_))))
 refine js Z (jn (af (ae (js Z (jn (ao (aw (X:=Nat) (fun i=>⟨[(1,.c (.rs 900 0 i)),(2,eI i)],[(900,aN (mN i))]⟩) (fun i=>i≤4) (fun i=>4-i) 0 ((dr 4 Z).trans ((aa 4 900 Z Z).trans (Ent.to ⟨Z,Z,ap⟩ Z))) ?_ (fun i hi=>?_))))))))
 exact cT _
 refine af (ae (ab Z (jn (ah Z (fun z6=>?_) (fun z6=>?_)))))
 refine aj (af (ao (ae (js Z (ji Z (aU (gn O Z Z Z Z Z Z Z Z Z (by first|omega|(simp at *;omega)) (by first|omega|(simp at *;omega)) (by first|omega|(simp at *;omega)) (by first|omega|(dsimp only;omega)|(simp only[bG]at *;omega)) (by first|omega|(simp at *;omega)) Z Z Z) Z (aq ?_)))))))
 refine js Z (jl Z (aq ?_))
 refine jo Z (aq ?_)
 refine ba (aH Z (dv Z Z (aU (ca (ex:=[.int .i64 0]) (xs':=((List.replicate i 0++[1]:List Int)).map (fun n=>[D.int .i64 n])) O Z Z Z Z Z Z Z Z Z Z Z Z Z Z pC pA) Z (aq ?_))))
 refine jn (ak (ar (Ent.freeze 11 (e':=[(1,_),(2,_),(3,_)]) Z (fe [1,2,3] Z) (.cons Z (.box (dw Z (.cons (.row Z (by simp)) .nil))) (.skip (bh Z .nil)))) ?_))
 refine ab Z (aU (bp O Z Z Z Z Z Z Z Z Z Z Z) Z (aq ?_))
 have hvl:=kj (i:=i)
 refine aU (cU (own:=false) (xs:=(mN i).map Tm.cells) (ys:=[Tm.cells (iV i)]) (zs:=(mN (i+1)).map Tm.cells) (n:=i+1) O Z (.row Z (by simp;omega)) (.whole Z Z (.inr ⟨Z,Z⟩)) (by simp) Z (by simp;omega) (by simp;omega) (by rw[um,List.map_append];rfl) (by simp[kj])) Z (aq ?_)
 refine aq ?_
 refine js Z (jn (ak (js Z (ji Z (js Z (jn ?_))))))
 refine⟨i+1,((am [20] (e':=[(1,_),(2,_)]) Z Z ⟨Z,Z,ap⟩ Z).trans (aa 20 900 Z Z)).trans (Ent.to ⟨Z,Z,ap⟩ Z),by have:=bK z6;omega,by have:=bK z6;omega⟩
 refine bg (ae (ab Z (jr ?_)))
 refine aJ Z ?_
 obtain rfl:i=4:=by have:=cu z6;omega
 exact .v (.c (.whole Z (by simp[kj])))
def w0(fs:List Tm):Pw:=⟨mN 4,fs,[],4⟩
def g0:Gs:=⟨[],[],false⟩
theorem xb{n:Nat}{fs:List Tm}(h:fs.length+n≤64):WOk n (w0 fs):=⟨kj,by show∀t∈mN 4,t.ok=true;decide,h,by show(0:Nat)+n≤64;omega,by show(4:Nat)≤10;decide⟩
theorem zS:GOk 0 g0:=⟨by show(0:Nat)≤201;decide,fun _=>by show(0:Nat)≤200;decide,da _⟩
def GG(f:List Fl)(idx e:Int):Nat→Int
  | 0=>e
  | j+1=>if(f.getD j default).stmt=idx then(j:Int)else GG f idx e j
theorem x9{f:List Fl}{idx e:Int}: ∀{j i:Nat},i<j→(f.getD i default).stmt=idx→∃p:Nat,p<j∧GG f idx e j=(p:Int)∧(f.getD p default).stmt=idx
 | j + 1,i,hi,hs=>by
  rw[GG]
  split
  rename_i h;exact⟨j,by omega,rfl,h⟩
  rename_i h
  obtain⟨p,h1,h2,h3⟩:=x9 (e:=e) (show i<j by
   rcases Nat.lt_or_ge i j with h4|h4
   · exact h4
   · obtain rfl:i=j:=by omega
     exact absurd hs h) hs
  exact⟨p,by omega,h2,h3⟩
variable{E:Pe}
theorem Gc(hbl:b.length≤30)(hT:cD b 0=some (t,b.length))(hck:t.cok b.length)(hnd:t.nodes≤30)(hE:EOk E b)(hpl:pre.length≤6)(hL:10000000≤L):MQ h1 h2 52 [ptr [fC pre,kI b,fC E.post],eI (-1)] [] (bb (.c (.pt 0 0 0)) (kM (pP pre b E.post) (dS (aC t (-1) []).1) (-1) (fi bH E (-1) 31 [.st t] (w0 pre) g0))):=by
 refine MC.shift 500 Z (MC.keep [500,505,506] (bs:=[gR (pP pre b E.post) (dS (aC t (-1) []).1) (-1) (fi bH E (-1) 31 [.st t] (w0 pre) g0) 505 506,ck (fi bH E (-1) 31 [.st t] (w0 pre) g0).paths,cn (fi bH E (-1) 31 [.st t] (w0 pre) g0).conds]) Z Z (jB 65 h1 h2 Tryz.func52 Z fun O hF=>?_))
 have hfl:=(fB hck (nx:= -1) (f:=[])).2
 have hB:=gB hT (nx:= -1) (f:=[]) (r:=[]) .nil
 refine ae (js Z (ba (az Z (aU (bO O Z Z Z) Z (aq ?_)))))
 refine au O [18] (bin:=[f7 []]) Z Z Z Z (uh (b:=b) h1 h2 (by omega) hT hck (-1) [] (by show(0:Nat)+t.nodes≤2000;omega)) Z Z Z Z Z Z (B0:=20000) Z Z (aq ?_)
 refine az Z (aH Z (ba (ar (Ent.freeze 20001 (e':=[(0,_),(1,_),(5,_),(6,_)]) Z (.cons Z (.keep Z) (.cons Z (.keep Z) (.cons Z (.c (.row Z (bQ _).symm)) (fe [6] Z)))) (.skip .nil)) ?_)))
 refine aH Z (aU (bO O Z Z Z) Z (aq ?_))
 refine ar (dr 26 Z) (aq ?_)
 refine aq ?_
 refine aU (bO O Z Z Z) Z (aq ?_)
 refine ar (dr 27 Z) (aq ?_)
 refine aq ?_
 refine js Z (jx Z (aq ?_))
 refine js Z (ba (ab Z (jn (af (ae (ab Z (jn (ah Z (fun z32=>?_) (fun z32=>?_)))))))))
 exact absurd (bK z32) (by decide)
 refine aj (ae (an O Z Z Z Z (DS h1 h2) (ac Z) Z Z Z Z (B0:=53000) Z Z (ab Z (an O Z Z Z Z (FR (pre:=pre) (post:=E.post) (b:=b) h1 h2) (ac Z) Z Z Z Z (B0:=56000) Z Z (aU (bO O Z Z Z) Z (aq ?_))))))
 refine ar (Ent.freeze 56 (e':=[(0,_),(1,_),(8,_),(9,_),(52,_),(55,_),(56,_)]) Z (.cons Z (.keep Z) (.cons Z (.keep Z) (.cons Z (.keep Z) (.cons Z (.keep Z) (.cons Z (.keep Z) (.cons Z (.keep Z) (.cons Z (.c (.row Z Z)) .nil))))))) (bh Z (bh Z (aZ Z (.skip .nil))))) ?_
 refine aq ?_
 refine js Z (jl Z (aq ?_))
 refine jo Z (aq ?_)
 refine ba (az Z (av ((V Z).cast (v':=eB false) (congrArg eB (by decide))) Z (au O [29,26,27] (bin:=[gR (pP pre b E.post) (dS (aC t (-1) []).1) (-1) g0 1 2,ck g0.paths,cn g0.conds]) Z Z Z Z (qc (pre:=pre) (b:=b) (fl:=(aC t (-1) []).1) (frm:= -1) (E:=E) h1 h2 hE (by omega) (n:=31) (r:=[.st t]) (w:=w0 pre) (g:=g0) (c:=0) hB.pl (by show t.nodes+0<31;omega) (xb (by omega)) zS (by have:=cP (show aP [.st t]≤30 by show t.nodes+0≤30;omega);rw[tc]at this;omega)) Z Z Z Z Z Z (B0:=64000) Z Z (aq ?_))))
 refine ba (ab Z (jr ?_))
 refine⟨.inl Z,_,((aa 29 500 Z Z).trans (aa 64005 505 Z Z)).trans (aa 64006 506 Z Z),_,Z,Z,Z⟩
theorem Gb(hbl:b.length≤30)(hT:cD b 0=some (t,b.length))(hck:t.cok b.length)(hnd:t.nodes≤30)(hE:EOk E b){q:Lp}(hq:q∈bo b t [])(hun: ∀p∈bo b t [],p.a=q.a→p=q)(hw:(rI b b.length).getD n default=(q.a:Int))(hn:n<br b b.length)(hqk:q.a<b.length)(hq8:(b.getD q.a default).kind=8)(hn1:aP [.st q.x,.lp (br b q.a)]≤30)(hn2:aP q.r≤30)(hL:20000000≤L):MQ h1 h2 52 [ptr [fC pre,kI b,fC E.post],eI (n:Nat)] [] (bb (.c (.pt 0 0 0)) (kM (pP pre b E.post) (dS (aC t (-1) []).1) (n:Nat) (dT (fi bH E (n:Nat) 31 [.st q.x,.lp (br b q.a)]) (fi bH E (n:Nat) 31 q.r) (w0 (b.getD q.a default).facts) (aR (b.getD q.a default).sum (w0 (b.getD q.a default).facts).vars).1 (bk (w0 (b.getD q.a default).facts) (b.getD q.a default).sum g0)))):=by
 refine MC.shift 500 Z (MC.keep [500,505,506] (bs:=[gR (pP pre b E.post) (dS (aC t (-1) []).1) (n:Nat) (dT (fi bH E (n:Nat) 31 [.st q.x,.lp (br b q.a)]) (fi bH E (n:Nat) 31 q.r) (w0 (b.getD q.a default).facts) (aR (b.getD q.a default).sum (w0 (b.getD q.a default).facts).vars).1 (bk (w0 (b.getD q.a default).facts) (b.getD q.a default).sum g0)) 505 506,ck (dT (fi bH E (n:Nat) 31 [.st q.x,.lp (br b q.a)]) (fi bH E (n:Nat) 31 q.r) (w0 (b.getD q.a default).facts) (aR (b.getD q.a default).sum (w0 (b.getD q.a default).facts).vars).1 (bk (w0 (b.getD q.a default).facts) (b.getD q.a default).sum g0)).paths,cn (dT (fi bH E (n:Nat) 31 [.st q.x,.lp (br b q.a)]) (fi bH E (n:Nat) 31 q.r) (w0 (b.getD q.a default).facts) (aR (b.getD q.a default).sum (w0 (b.getD q.a default).facts).vars).1 (bk (w0 (b.getD q.a default).facts) (b.getD q.a default).sum g0)).conds]) Z Z (jB 65 h1 h2 Tryz.func52 Z fun O hF=>?_))
 have hfl:=(fB hck (nx:= -1) (f:=[])).2
 have hB:=gB hT (nx:= -1) (f:=[]) (r:=[]) .nil
 have hwl:=i8 (b:=b) (i:=b.length)
 have hff:=(ja (hE.st _ hqk)).2
 have hFl:(aC t (-1) []).1.length≤30:=by have:([]:List Fl).length=0:=rfl;omega
 refine ae (js Z (ba (az Z (aU (bO O Z Z Z) Z (aq ?_)))))
 refine au O [18] (bin:=[f7 []]) Z Z Z Z (uh (b:=b) h1 h2 (by omega) hT hck (-1) [] (by show(0:Nat)+t.nodes≤2000;omega)) Z Z Z Z Z Z (B0:=20000) Z Z (aq ?_)
 refine az Z (aH Z (ba (ar (Ent.freeze 20001 (e':=[(0,_),(1,_),(5,_),(6,_)]) Z (.cons Z (.keep Z) (.cons Z (.keep Z) (.cons Z (.c (.row Z (bQ _).symm)) (fe [6] Z)))) (.skip .nil)) ?_)))
 refine aH Z (aU (bO O Z Z Z) Z (aq ?_))
 refine ar (dr 26 Z) (aq ?_)
 refine aq ?_
 refine aU (bO O Z Z Z) Z (aq ?_)
 refine ar (dr 27 Z) (aq ?_)
 refine aq ?_
 refine js Z (jx Z (aq ?_))
 refine js Z (ba (ab Z (jn (af (ae (ab Z (jn (ah Z (fun z32=>?_) (fun z32=>?_)))))))))
 refine ae (js Z (an O Z Z Z Z (z3 (pre:=pre) (post:=E.post) (b:=b) h1 h2 (by omega)) (ac Z) Z Z Z Z (B0:=35000) Z Z (js Z (av ((bf O Z Z Z Z Z Z Z Z (dO (by omega))).cast (v':=ptr [.int .i64 (q.a:Nat)]) (by rw[hw])) Z (ab Z (ba (js Z (jn (ao (aw (X:=Nat) (fun j=>⟨[(0,ptr [fC pre,kI b,fC E.post]),(1,eI (n:Nat)),(5,.c (.d (dS (aC t (-1) []).1))),(8,.c (.pt 29 0 0)),(9,eI (GG (aC t (-1) []).1 (q.a:Nat) (aC t (-1) []).2 j)),(10,eI (q.a:Nat)),(11,eI j)],[(26,ck []),(27,cn []),(29,gR (pP pre b E.post) (dS (aC t (-1) []).1) (n:Nat) g0 26 27)]⟩) (fun j=>j≤(aC t (-1) []).1.length) (fun j=>(aC t (-1) []).1.length-j) 0 ((am [26,27,29] (e':=[(0,_),(1,_),(5,_),(8,_),(9,_),(10,_),(11,_)]) Z Z ⟨Z,Z,Z,Z,Z,Z,Z,ap⟩ Z).trans (Ent.to ⟨Z,Z,Z,Z,Z,Z,Z,ap⟩ Z)) ?_ (fun j hi=>?_)))))))))))
 exact cT _
 refine af (ae (ab Z (dh Z (js Z (jn (ah Z (fun z41=>?_) (fun z41=>?_)))))))
 refine aj (af (ao (ae (ab Z ?_))))
 have hjl:j<(aC t (-1) []).1.length:=by have:=bK z41;omega
 refine av (bf O Z Z Z Z Z Z Z Z (dO hjl)) Z (az Z (jn (ah Z (fun z50=>?_) (fun z50=>?_))))
 refine ak (ab Z (jn (ak (js Z (ji Z (js Z (jn ?_)))))))
 refine⟨j+1,(am [26,27,29] (e':=[(0,_),(1,_),(5,_),(8,_),(9,_),(10,_),(11,_)]) Z Z ⟨Z,Z,Z,Z,Z,Z,Z,ap⟩ Z).trans (Ent.to ⟨Z,Z,Z,Z,by rw[GG,if_pos (bK z50)];rfl,Z,Z,ap⟩ Z),by omega,by omega⟩
 refine aj (ak (js Z (ji Z (js Z (jn ?_)))))
 refine⟨j+1,(am [26,27,29] (e':=[(0,_),(1,_),(5,_),(8,_),(9,_),(10,_),(11,_)]) Z Z ⟨Z,Z,Z,Z,Z,Z,Z,ap⟩ Z).trans (Ent.to ⟨Z,Z,Z,Z,by rw[GG,if_neg (cu z50)];rfl,Z,Z,ap⟩ Z),by omega,by omega⟩
 refine bg (ae (an O Z Z Z Z (DS h1 h2) (ac Z) Z Z Z Z (B0:=53000) Z Z (ab Z (an O Z Z Z Z (FQ (pre:=pre) (post:=E.post) (b:=b) (n:=n) (i:=q.a) h1 h2 (by omega) hqk hn hw) (ac Z) Z Z Z Z (B0:=56000) Z Z (aU (bO O Z Z Z) Z (aq ?_))))))
 refine ar (Ent.freeze 56 (e':=[(0,_),(1,_),(8,_),(9,_),(52,_),(55,_),(56,_)]) Z (.cons Z (.keep Z) (.cons Z (.keep Z) (.cons Z (.keep Z) (.cons Z (.keep Z) (.cons Z (.keep Z) (.cons Z (.keep Z) (.cons Z (.c (.row Z Z)) .nil))))))) (bh Z (bh Z (aZ Z (.skip .nil))))) ?_
 refine aq ?_
 refine js Z (jl Z (aq ?_))
 refine jo Z (aq ?_)
 refine ba (js Z ?_)
 obtain rfl:j=(aC t (-1) []).1.length:=by have:=cu z41;omega
 obtain⟨i0,hi0,hl0⟩:=hB.all q hq
 obtain⟨p,hp1,hp2,hp3⟩:=x9 (e:=(aC t (-1) []).2) hl0.1 hl0.2.1
 obtain⟨q1,hq1,hl1⟩:=hB.new p (cT _) hp1 q.a hp3 hq8
 obtain rfl:q1=q:=hun q1 hq1 (by have:=hl1.2.1;rw[hp3]at this;omega)
 rw[hp2]
 refine aH Z (av ((V Z).cast (v':=eB true) (congrArg eB (decide_eq_true (by omega)))) Z (au O [29,26,27] (bin:=[gR (pP pre b E.post) (dS (aC t (-1) []).1) (n:Nat) g0 1 2,ck g0.paths,cn g0.conds]) Z Z Z Z (FP (pre:=pre) (b:=b) (fl:=(aC t (-1) []).1) (frm:=(n:Nat)) (E:=E) h1 h2 hE (by omega) (n:=31) (w:=(w0 (b.getD q1.a default).facts)) (g:=g0) (c:=0) Z hp1 hp3 hqk hq8 hl1.2.2.1 hl1.2.2.2 (by omega) (by omega) (xb (by omega)) zS (by have a1:=cP hn1;have a2:=cP hn2;rw[tc]at a1 a2;omega)) Z Z Z Z Z Z (B0:=64000) Z Z (aq ?_)))
 refine ba (ab Z (jr ?_))
 refine⟨.inl Z,_,((aa 29 500 Z Z).trans (aa 64005 505 Z Z)).trans (aa 64006 506 Z Z),_,Z,Z,Z⟩
 exact absurd (cu z32) (by omega)
instance:Inhabited Lp:=⟨⟨default,0,.node default 0 [],[]⟩⟩
structure Lps(b:List Sm)(t:Tr)(k k':Nat)(r:List Fr):Prop where
  num:(bo b t r).map (fun q=>br b q.a)=List.range' (br b k) (br b k'-br b k)
  at_: ∀q∈bo b t r,k≤q.a∧q.a<k'∧(b.getD q.a default).kind=8∧q.s=b.getD q.a default
  size: ∀q∈bo b t r,aP q.r≤t.nodes+aP r∧q.x.nodes≤t.nodes
theorem yC{a b c:Nat}(h:a≤b)(g:b≤c):List.range' a (b-a)++List.range' b (c-b)=List.range' a (c-a):=by
 have:=List.range'_append (s:=a) (m:=b-a) (n:=c-b) (step:=1)
 rw[Nat.one_mul,show a+(b-a)=b by omega,show b-a+(c-b)=c-a by omega]at this
 exact this
theorem xa{b:List Sm}: ∀{t:Tr} {k k':Nat},cD b k=some (t,k')→∀{r:List Fr},Lps b t k k' r
 | .node s a [x,y],k,k',h,r=>by
  obtain⟨e1,rfl,e3,e4,e5⟩:=cx h
  obtain rfl:=dj h
  obtain⟨k1,i1,i2⟩:=cr e4
  obtain⟨k2,i3,i4⟩:=cr i2
  obtain rfl:=e9 i4
  have hl1:=jV i1;have hl2:=jV i3
  have hy:=xa i3 (r:=r)
  have h8: ¬(b.getD k default).kind=8:=by
   intro h8;rw[h8]at e5;revert e5;simp only[eH,List.length_nil];decide
  have hk1:br b (k+1)=br b k:=by rw[br,if_neg h8];rfl
  have m1:=gY (b:=b) (show k+1≤k1 by omega)
  have m2:=gY (b:=b) (show k1≤k' by omega)
  have hn:Tr.nodes (.node (b.getD k default) (k:Nat) [x,y])=1+(x.nodes+y.nodes):=by simp[Tr.nodes,Trs.nodes]
  have key: ∀rx,aP rx≤y.nodes+aP r→Lps b x (k+1) k1 rx→∀l,l=bo b x rx++bo b y r→bo b (.node (b.getD k default) (k:Nat) [x,y]) r=l→Lps b (.node (b.getD k default) (k:Nat) [x,y]) k k' r:=fun rx hrx hx l hl he=>by
   refine⟨?_,fun q hq=>?_,fun q hq=>?_⟩
   · rw[he,hl,List.map_append,hx.num,hy.num,hk1]
     exact yC (by omega) m2
   · rw[he,hl]at hq
     rcases List.mem_append.1 hq with hq|hq
     · have:=hx.at_ q hq;exact⟨by omega,by omega,this.2.2⟩
     · have:=hy.at_ q hq;exact⟨by omega,by omega,this.2.2⟩
   · rw[he,hl]at hq
     rw[hn]
     rcases List.mem_append.1 hq with hq|hq
     · have:=hx.size q hq;omega
     · have:=hy.size q hq;omega
  by_cases hk:(b.getD k default).kind=1
  exact key (.st y::r) (da _) (xa i1) _ Z (by rw[e8,if_pos hk])
  exact key r (by omega) (xa i1) _ Z (by rw[e8,if_neg hk])
 | .node s a [x],k,k',h,r=>by
  obtain⟨e1,rfl,e3,e4,e5⟩:=cx h
  obtain rfl:=dj h
  obtain⟨k1,i1,i2⟩:=cr e4
  obtain rfl:=e9 i2
  have hk8:(b.getD k default).kind=8:=ln e5.symm
  have hl1:=jV i1
  have hx:=xa i1 (r:=[.lp (br b k)])
  have hk1:br b (k+1)=br b k+1:=by rw[br,if_pos hk8]
  have m1:=gY (b:=b) (show k+1≤k' by omega)
  have hn:Tr.nodes (.node (b.getD k default) (k:Nat) [x])=1+x.nodes:=by simp[Tr.nodes,Trs.nodes]
  have he:bo b (.node (b.getD k default) (k:Nat) [x]) r=⟨b.getD k default,k,x,r⟩::bo b x [.lp (br b k)]:=jW
  refine⟨?_,fun q hq=>?_,fun q hq=>?_⟩
  rw[he,List.map_cons,hx.num,hk1,show br b k'-br b k=(br b k'-(br b k+1))+1 by omega,List.range'_succ]
  rw[he]at hq
  rcases List.mem_cons.1 hq with rfl|hq
  exact⟨da _,by show k<k';omega,hk8,Z⟩
  have:=hx.at_ q hq;exact⟨by omega,this.2.1,this.2.2⟩
  rw[he]at hq
  rw[hn]
  rcases List.mem_cons.1 hq with rfl|hq
  exact⟨by show aP r≤_;omega,by show x.nodes≤_;omega⟩
  have:=hx.size q hq
  have e0:aP [.lp (br b k)]=0:=rfl
  omega
 | .node s a [],k,k',h,r=>by
  obtain⟨e1,rfl,e3,e4,e5⟩:=cx h
  obtain rfl:=dj h
  obtain rfl:=e9 e4
  have hne:=je (e5.symm:bC (b.getD k default).kind=0)
  have hk1:br b (k+1)=br b k:=by rw[br,if_neg hne.2.2];rfl
  refine⟨?_,fun q hq=>(by rw[jX]at hq;cases hq),fun q hq=>(by rw[jX]at hq;cases hq)⟩
  rw[jX,hk1,Nat.sub_self];rfl
 | .node s a (x::y::z::ks),k,k',h,r=>by
  obtain⟨e1,rfl,e3,e4,e5⟩:=cx h
  have h2:=(c7 (b.getD k default).kind).2
  simp only[eH]at e5
  omega
def t2(b:List Sm)(post:List Tm):Pe:=⟨post,fun n=>(b.getD ((rI b b.length).getD n default).toNat default).facts,fun a=>br b a.toNat⟩
theorem EH{b:List Sm}{post:List Tm}(hp:terms post 6=true)(hs: ∀k,k<b.length→bz (b.getD k default)=true):EOk (t2 b post) b:=
  ⟨nh hp,hs,fun k hk h8=>by simp only[t2];rw[vS hk h8];rfl,fun k hk h8=>by simp only[t2];rfl⟩
def cZ(la:dM)(E:Pe)(b:List Sm)(t:Tr)(pre:List Tm):Nat→Gs→Gs
  | 0,g=>fi la E (-1) 31 [.st t] (w0 pre) g
  | n+1,g=>dT (fi la E (n:Nat) 31 [.st ((bo b t []).getD n default).x,.lp n]) (fi la E (n:Nat) 31 ((bo b t []).getD n default).r) (w0 ((bo b t []).getD n default).s.facts) (aR ((bo b t []).getD n default).s.sum (mN 4)).1 (bk (w0 ((bo b t []).getD n default).s.facts) ((bo b t []).getD n default).s.sum g)
theorem m6{b:List Sm}{t:Tr}(hT:cD b 0=some (t,b.length)){n:Nat}(hn:n<br b b.length):(bo b t []).getD n default∈bo b t []∧br b ((bo b t []).getD n default).a=n:=by
 have h:=(xa hT (r:=[])).num
 have hl:=congrArg List.length h
 have h0:br b 0=0:=rfl
 rw[bQ,List.length_range',h0]at hl
 have hlt:n<(bo b t []).length:=by omega
 have e:(bo b t []).getD n default=(bo b t [])[n]:=by simp[List.getD_eq_getElem?_getD,hlt]
 refine⟨by rw[e];exact List.getElem_mem hlt,?_⟩
 have hg:((bo b t []).map (fun q=>br b q.a))[n]'(by rw[bQ];exact hlt)=n:=by
  simp only[h,List.getElem_range'];omega
 rw[List.getElem_map]at hg
 rw[e];exact hg
theorem CP{b:List Sm}{t:Tr}(hT:cD b 0=some (t,b.length)){p q:Lp}(hp:p∈bo b t [])(hq:q∈bo b t [])(he:p.a=q.a):p=q:=by
 have h:=(xa hT (r:=[])).num
 obtain⟨i,hi,rfl⟩:=List.mem_iff_getElem.1 hp
 obtain⟨j,hj,rfl⟩:=List.mem_iff_getElem.1 hq
 have h1: ∀i (hi:i<(bo b t []).length),br b (bo b t [])[i].a=i:=fun i hi=>by
  have hg:((bo b t []).map (fun q=>br b q.a))[i]'(by rw[bQ];exact hi)=i:=by
    have h0:br b 0=0:=rfl
    simp only[h,List.getElem_range'];omega
  rw[List.getElem_map]at hg
  exact hg
 have e1:=h1 i hi
 have e2:=h1 j hj
 rw[he,e2]at e1
 subst e1;rfl
theorem IE{L:Nat}(h1:4096≤L)(h2:L≤1073741824){pre:List Tm}{b:List Sm}{t:Tr}{E:Pe}(hbl:b.length≤30)(hT:cD b 0=some (t,b.length))(hck:t.cok b.length)(hnd:t.nodes≤30)(hE:EOk E b)(hpl:pre.length≤6)(hL:20000000≤L){n:Nat}(hn:n≤br b b.length) :
  MC Tryz.prog L 52 [ptr [fC pre,kI b,fC E.post],eI ((n:Int)-1)] [] (bb (.c (.pt 0 0 0)) (kM (pP pre b E.post) (dS (aC t (-1) []).1) ((n:Int)-1) (cZ bH E b t pre n g0))):=by
 cases n with
 | zero=>exact Gc h1 h2 hbl hT hck hnd hE hpl (by omega)
 | succ n=>
  obtain⟨hq,hqa⟩:=m6 hT (n:=n) (by omega)
  have hat:=(xa hT (r:=[])).at_ _ hq
  have hsz:=(xa hT (r:=[])).size _ hq
  have e0:aP []=0:=rfl
  have e:((n+1:Nat):Int)-1=(n:Nat):=by omega
  rw[e]
  have hw:(rI b b.length).getD n default=(((bo b t []).getD n default).a:Int):=by
   have:=vS hat.2.1 hat.2.2.1
   rw[hqa]at this;exact this
  have:=Gb h1 h2 hbl hT hck hnd hE hq (fun p hp he=>CP hT hp hq he) hw (by omega) hat.2.1 hat.2.2.1 (by show((bo b t []).getD n default).x.nodes+0≤30;omega) (by omega) hL (pre:=pre)
  rw[cZ,←hat.2.2.2,hqa]at *
  exact this
abbrev vH(ss:List Sq):D:=.slc 3 (ss.map Sq.cells)
def im(ss:List Sq):Bool:=ss.all dW&&decide ((ss.length:Int)≤60)
theorem z5{ss:List Sq}:MQ h1 h2 36 [.c (.d (vH ss))] [] (Plain (eB (im ss))):=by
 refine jB 18 h1 h2 Tryz.func36 Z fun O hF=>?_
 have hl:ss.length≤L:=by simpa[As.fact,A.fact,M.fact,D.fact,Ds.fact]using hF.1.1
 refine ae (js Z (jn (af (ae (js Z (jn (ao (aw (X:=Nat) (fun i=>⟨[(0,.c (.d (vH ss))),(3,eI i)],[]⟩) (fun i=>i≤ss.length∧∀j (h:j<ss.length),j<i→dW ss[j]=true) (fun i=>ss.length-i) 0 (Ent.env ⟨Z,Z,ap⟩) ?_ (fun i hi=>?_)))))))))
 exact⟨cT _,fun j h hj=>absurd hj (Nat.not_lt_zero j)⟩
 refine af (ae (ab Z (dh Z (js Z (jn (ah Z (fun z7=>?_) (fun z7=>?_)))))))
 try simp only[bG]at z7
 refine aj (af (ao (ae (ab Z (jD Z Z (bP Z (c82 (s:=ss.getD i default) h1 h2) 14000 Z (js Z (jn (ah Z (fun z14=>?_) (fun z14=>?_))))))))))
 try simp only[bG]at z14
 refine ae (js Z (jr ?_))
 refine aJ Z ?_
 rw[aD (by omega)]at z14
 rw[im,jg i (by omega) z14,Bool.false_and]
 exact⟨Z,Z⟩
 try simp only[bG]at z14
 refine aj (ak (js Z (ji Z (js Z (jn ?_)))))
 refine⟨i+1,Ent.env ⟨Z,Z,ap⟩,⟨by omega,fun j h hj=>?_⟩,by omega⟩
 by_cases e:j=i
 subst e;rw[aD h]at z14;exact z14
 exact hi.2 j h (by omega)
 try simp only[bG]at z7
 refine bg (ae (js Z (dh Z (ab Z (jr ?_)))))
 refine aJ Z ?_
 rw[im,ki (fun j hj=>hi.2 j hj (by omega)),Bool.true_and]
 exact⟨Z,Z⟩
structure PtOk(p:Pm)(t:Tr):Prop where
  len:p.body.length≤30
  tree:cD p.body 0=some (t,p.body.length)
  cok:t.cok p.body.length
  nodes:t.nodes≤30
  st: ∀k,k<p.body.length→bz (p.body.getD k default)=true
  pre:terms p.pre 6=true
  post:terms p.post 6=true
theorem PtOk.e{p:Pm}{t:Tr}(h:PtOk p t):EOk (t2 p.body p.post) p.body:=EH h.post h.st
def kP(la:dM)(p:Pm)(t:Tr)(n:Nat)(g:Gs):Gs:=cZ la (t2 p.body p.post) p.body t p.pre n g
theorem Fy{t:Tm}:MQ h1 h2 158 [db t] [] (Rows (.tup [.agg [.d (.int .i64 (pY t).1.c),.rs 0 0 (pY t).1.xs.length],eB (pY t).2]) [aO (pY t).1.xs]):=by
 refine cH (jB 10 h1 h2 Tryz.func158 Z fun O hF=>?_)
 refine ae (jx Z (aq ?_))
 refine jl Z (aq ?_)
 refine js Z (jn (af (ae (js Z (bP Z (mS (t:=t) h1 h2) 6000 Z (js Z (jn (ah Z (fun z6=>?_) (fun z6=>?_)))))))))
 refine ae (js Z (jo Z (aq ?_)))
 refine js Z (jr ?_)
 have hok:t.ok=false:=by simpa using z6
 rw[show pY t=(⟨0,[]⟩,false)from if_neg (by rw[hok];decide)]
 refine⟨.inl Z,_,cz 2 900 1 true 1 Z Z Z,_,Z,[900],by decide,Z,Z,Z⟩
 refine aj (ae (js Z (ci O (B0:=10000) Z Z Z Z (rP (t:=t) h1 h2) (ac Z) Z Z Z Z Z Z (aq ?_))))
 refine jo Z (aq ?_)
 refine js Z (jr ?_)
 have hok:t.ok=true:=by simpa using z6
 rw[show pY t=(t,true)from if_pos hok]
 refine⟨.inl Z,_,b9,_,Z,[10000],by decide,Z,Z,Z⟩
theorem Fz{t:Tm}{vs:List Tm}(ht:t.ok=true)(hv:fS vs 10=true)(hle:t.xs.length≤vs.length):MQ h1 h2 122 [db t,cb vs] [] (Rows (.tup [.agg [.d (.int .i64 (aR t vs).1.c),.rs 0 0 (aR t vs).1.xs.length],eB (aR t vs).2]) [aO (aR t vs).1.xs]):=by
 refine cH (jB 64 h1 h2 Tryz.func122 Z fun O hF=>?_)
 have htl:=qf ht
 refine ae (jx Z (aq ?_))
 refine jf [2,1] Z (jl Z (aq ?_))
 refine js Z (jn (af (ae (js Z (bP Z (mS (t:=t) h1 h2) 13000 Z (ab Z (jf [14,5,4,2,1] Z (aA 3 Z Z Z (fun hx=>ax hx Z (bA O hx Z Z Z Z (El (ts:=vs) (n:=10) h1 h2) (ac Z) Z Z Z Z Z Z Z (B0:=17000) Z (ax hx Z (AN.nil)))) Z Z (av (aG O Z Z Z Z Z) Z (jf [18,5,4,2,1] Z (jn (ah Z (fun z18=>?_) (fun z18=>?_)))))))))))))
 exact absurd z18 (by rw[hv,ht];decide)
 refine aj (ae (aH Z (jf [22,5,4,2,1] Z (aU (bp O Z Z Z Z Z Z Z Z Z Z Z) Z (aq ?_)))))
 refine ar (Ent.rowLe 23 Z (.cons (aQ (.cons (.nil (sz:=1)) .nil)) .nil)) (aq ?_)
 refine aq ?_
 refine jf [23,5,4,2,1] Z (aU (bO O Z Z Z) Z (aq ?_))
 refine ab Z (jf [7,6,5,4,2,1] Z (jn (af (ae (ab Z (dh Z (js Z (jn (ao (aw (X:=Nat) (fun i=>⟨[(1,cb vs),(2,.c (.pt 2 0 0)),(4,.c (.pt 4 0 0)),(6,.c (.rs 906 0 (i+1))),(7,.c (.rs 907 0 (i+1))),(26,ce t.xs),(27,eI t.xs.length),(28,eI i)],[(2,.box [.d (.int .i64 t.c),.d (cY t.xs)]),(4,.box [.d (.int .i64 0),.d .nils]),(906,.row false 2 ((⟨t.c,[]⟩::vs.take i).map Tm.cells)),(907,aO (1::t.xs.take i))]⟩) (fun i=>i≤t.xs.length) (fun i=>t.xs.length-i) 0 ((((am [2,4,23,24] (e':=[(1,_),(2,_),(4,_),(6,_),(7,_),(26,_),(27,_),(28,_)]) Z Z ⟨Z,Z,Z,Z,Z,Z,Z,Z,ap⟩ Z).trans (aa 23 906 Z Z)).trans (aa 24 907 Z Z)).trans (Ent.to ⟨Z,Z,Z,Z,Z,Z,Z,Z,ap⟩ Z)) ?_ (fun i hi=>?_)))))))))))
 exact cT _
 refine ae (js Z (jn (af (ah Z (fun z29=>?_) (fun z29=>?_)))))
 refine aj (af (ao (ae (js Z (jD Z Z (aH Z (jf [9,8,29,1,2,4,6,7,26,27,28] Z (ba ?_))))))))
 have hil:i<t.xs.length:=by have:=bK z29;omega
 have hvl:vs.length≤10:=by have:=(wl hv).2;omega
 refine js Z (ji Z (jf [34,9,8,29,1,2,4,6,7,26,27,28] Z (aU (gn O Z Z Z Z Z Z Z Z Z (by first|omega|(simp at *;omega)) (by first|omega|(simp at *;omega)) (by first|omega|(simp at *;omega)) (by first|omega|(dsimp only;omega)|(simp only[bG]at *;omega)) (by first|omega|(simp at *;omega)) Z Z Z) Z (aq ?_))))
 refine js Z (jf [36,9,8,29,1,2,4,6,7,26,27,28] Z (jl Z (aq ?_)))
 refine jo Z (aq ?_)
 refine ba (aH Z (dv Z Z (jf [40,10,36,9,8,29,1,2,4,6,7,26,27,28] Z (aU (ca (ex:=[.int .i64 0]) (xs':=((List.replicate i 0++[1]:List Int)).map (fun n=>[D.int .i64 n])) O Z Z Z Z Z Z Z Z Z Z Z Z Z Z pC pA) Z (aq ?_)))))
 refine jn (af (ae (ab Z (dh Z (js Z (jf [44,40,10,36,9,8,29,1,2,4,6,7,26,27,28] Z (jn (ah Z (fun z44=>?_) (fun z44=>?_)))))))))
 refine ak (ab Z (jD Z Z (js Z (jf [48,44,40,10,36,9,8,29,1,2,4,6,7,26,27,28] Z (jo Z (aq ?_))))))
 refine jn (ak (ab Z (aU (bp O Z Z Z Z Z Z Z Z Z Z Z) Z (aq ?_))))
 refine jf [51,49,48,44,40,10,36,9,8,29,1,2,4,6,7,26,27,28] Z (aU (cU (own:=false) (xs:=((⟨t.c,[]⟩:Tm)::vs.take i).map Tm.cells) (ys:=[Tm.cells (vs.getD i default)]) (zs:=((⟨t.c,[]⟩:Tm)::vs.take (i+1)).map Tm.cells) (n:=i+2) O Z (.row Z (by simp;omega)) (.whole Z Z (.inr ⟨Z,Z⟩)) (by simp) Z (by simp;omega) (by simp;omega) (by rw[List.take_succ_eq_append_getElem (by omega),←List.cons_append,List.map_append,aD (by omega)];rfl) (by simp;omega)) Z (aq ?_))
 refine ar (am [2,4,52,907] (e':=[(52,_),(9,_),(7,_),(1,_),(2,_),(4,_),(26,_),(27,_),(28,_)]) Z Z ⟨Z,Z,Z,Z,Z,Z,Z,Z,Z,ap⟩ Z) (aq ?_)
 refine ab Z (jf [54,53,52,7,1,2,4,26,27,28] Z (aU (bO O Z Z Z) Z (aq ?_)))
 refine jf [55,53,52,7,1,2,4,26,27,28] Z (aU (cJ (zs:=(1::t.xs.take (i+1)).map fun n=>[.int .i64 n]) (n:=i+2) O Z Z Z Z Z Z Z Z Z Z Z Z Z Z Z Z (.row Z (by simp;omega)) Z Z (by decide) Z (by simp;omega) (by simp;omega) (by rw[show t.xs.take (i+1)=t.xs.take i++[t.xs.getD i default] by rw[List.take_succ_eq_append_getElem (by omega),aD (by omega)],←List.cons_append,List.map_append];rfl) (by simp;omega)) Z (aq ?_))
 refine ab Z (jf [7,6,1,2,4,26,27,28] Z (jn (ak (ji Z (js Z (jn ?_))))))
 refine⟨i+1,(((am [2,4,52,56] (e':=[(1,_),(2,_),(4,_),(6,_),(7,_),(26,_),(27,_),(28,_)]) Z Z ⟨Z,Z,Z,Z,Z,Z,Z,Z,ap⟩ Z).trans (aa 52 906 Z Z)).trans (aa 56 907 Z Z)),by omega,by omega⟩
 exact absurd z44 (by simp;omega)
 refine bg (ae ?_)
 have hvl:vs.length≤10:=by have:=(wl hv).2;omega
 obtain rfl:i=t.xs.length:=by have:=cu z29;omega
 rw[List.take_length]
 refine ar (Ent.freeze 906 (e':=[(6,_),(7,_),(4,_),(2,_)]) Z (.cons Z (.c (.row Z (by simp;omega))) (fe [7,4,2] Z)) (aZ Z (aZ Z (.skip (bh Z .nil))))) ?_
 refine ar (Ent.freeze 907 (e':=[(6,_),(7,_),(4,_),(2,_)]) Z (.cons Z (.keep Z) (.cons Z (.c (.row Z (by simp))) (fe [4,2] Z))) (aZ Z (aZ Z (.skip .nil)))) ?_
 refine ab Z (an O Z Z Z Z (B9 (ts:=⟨t.c,[]⟩::vs.take t.xs.length) (ms:=1::t.xs) h1 h2 (Cy ht hv) (by have:=(Small.of ht).xs;rw[List.all_cons,this];decide) (by simp;omega)) (ac Z) Z Z Z Z (B0:=61000) Z Z (jf [60,6,7,4,2] Z (ci O (B0:=62000) Z Z Z Z (Fy (t:=io (⟨t.c,[]⟩::vs.take t.xs.length) (1::t.xs)) h1 h2) (ac Z) Z Z Z Z Z Z (aq ?_))))
 refine ab Z (jf [63,62,6,7,4,2] Z (jo Z (aq ?_)))
 refine js Z (jf [5,6,7,4,2] Z (jr ?_))
 rw[←A0]
 refine⟨.inl Z,_,b9,_,Z,[62000],by decide,Z,Z,Z⟩
structure Pc where
  post:D
  starts:D
  body:D
  loops:D
  behind:D
  num:List (Int×D)
abbrev aY(ps:List Pth):B:=.row true 5 (ps.map Pth.cells)
abbrev aW(ss:List Sq):B:=.row true 3 (ss.map Sq.cells)
abbrev iB(c:Pc)(g:Gs)(i j k:Nat):B:=.box [.d c.post,.d c.starts,.rs i 0 g.paths.length,.rs j 0 g.conds.length,.d (.bool g.bad),.d c.body,.d c.loops,.d c.behind,.mp k]
abbrev iW(frm:Int)(w:Pw)(i j k:Nat):B:=.box [.d (.int .i64 frm),.rs i 0 w.vars.length,.d .nils,.rs j 0 w.facts.length,.rs k 0 w.ev.length,.d (.int .i64 (w.sym:Int))]
abbrev iH(c:Pc)(g:Gs)(frm:Int)(w:Pw):List (Nat×B):=[(0,iB c g 1 2 3),(1,aY g.paths),(2,aW g.conds),(3,bn c.num),(4,iW frm w 5 6 7),(5,aN w.vars),(6,aN w.facts),(7,aO w.ev)]

variable{c:Pc}{g:Gs}
theorem Is{k:Int}{xs:List Int}{ok:Bool}:MQ h1 h2 119 [.c (.pt 0 0 0),(.agg [.d (.int .i64 k),.rs 4 0 xs.length]),eB ok] [(0,iB c g 1 2 3),(1,aY g.paths),(2,aW g.conds),(3,bn c.num),(4,aO xs)] (bb (.agg [.d (.int .i64 k),.rs 4 0 xs.length]) [(0,iB c (g.flag (!ok)) 1 2 3),(1,aY (g.flag (!ok)).paths),(2,aW (g.flag (!ok)).conds),(3,bn c.num),(4,aO xs)]):=by
 refine MC.shift 500 Z (MC.keep [500,501,502,503,504] (bs:=[iB c (g.flag (!ok)) 501 502 503,aY (g.flag (!ok)).paths,aW (g.flag (!ok)).conds,bn c.num,aO xs]) Z Z (jH 13 [500,501,502,503,504] h1 h2 Tryz.func119 Z fun O hF=>?_))
 refine b0 ?_
 refine ae (jx Z (aq ?_))
 refine jl Z (aq ?_)
 refine jn (af (ae (ab Z (jn (ah Z (fun z8=>?_) (fun z8=>?_))))))
 refine ak (aH Z (jo Z (aq ?_)))
 refine ba (js Z (jo Z (aq ?_)))
 refine jr ?_
 have hok:ok=false:=by simpa using z8
 subst hok
 rw[show g.flag (!false)=⟨g.paths,g.conds,true⟩from l8]
 refine⟨.inl Z,_,b9,_,Z,Z,Z⟩
 refine aj (ae (js Z (jo Z (aq ?_))))
 refine jr ?_
 have hok:ok=true:=by simpa using z8
 subst hok
 rw[show g.flag (!true)=g from iL]
 refine⟨.inl Z,_,b9,_,Z,Z,Z⟩
variable{frm:Int}{w:Pw}
theorem oN{t:Tm}(ht:t.ok=true)(hv:fS w.vars 10=true)(hle:t.xs.length≤w.vars.length):MQ h1 h2 74 [.c (.pt 0 0 0),.c (.pt 4 0 0),db t] (iH c g frm w) (bb (db (aR t w.vars).1) (iH c (bk w t g) frm w)):=by
 refine MC.shift 500 Z (MC.keep [500,501,502,503,504,505,506,507] (bs:=[iB c (bk w t g) 501 502 503,aY (bk w t g).paths,aW (bk w t g).conds,bn c.num,iW frm w 505 506 507,aN w.vars,aN w.facts,aO w.ev]) Z Z (jH 17 [500,501,502,503,504,505,506,507] h1 h2 Tryz.func74 Z fun O hF=>?_))
 refine b0 ?_
 refine ae (jx Z (aq ?_))
 refine ar (Ent.freeze 5 (e':=[(5,_),(0,_),(1,_)]) Z (.cons Z (.c (.box (cs:=Tm.cells t) Z (aE Z))) (fe [0,1] Z)) (.skip (aZ Z (bh Z (bh Z (.cons Z .map (aZ Z (bh Z (bh Z (bh Z .nil)))))))))) ?_
 refine aq ?_
 refine jl Z (aq ?_)
 refine jn (af (fZ [_,_,_,_,_,_,_,_,_,_,_] [pn [] 0 1,aF,aF,ag [2],ag [2,3],ag [2,3,4],pe (rg 1 5) 0,pn (rg 1 6) 1 1,pn (rg 1 6) 1 1,pe (rg 0 9) 1,pe (rg 0 10) 2] [6,9,10] [_,_,_,_] (ai (kc Z (V Z)) (cw Z (kc Z (ai (dA O (B0:=14000) Z Z Z Z (Fz (t:=t) (vs:=w.vars) h1 h2 ht hv hle) (.cons (.agg (aE Z)) (.cons (.c (.whole Z (bQ _).symm)) .nil)) Z Z Z Z Z) (kc Z (kc Z (ai (ct O [500,501,502,503,14000] (bin:=[iB c g 1 2 3,aY g.paths,aW g.conds,bn c.num,aO (aR t w.vars).1.xs]) Z Z Z Z (Is (c:=c) (g:=g) (k:=(aR t w.vars).1.c) (xs:=(aR t w.vars).1.xs) (ok:=(aR t w.vars).2) h1 h2) Z Z Z Z Z (B0:=17000) Z Z Z Z Z Z) (ai (eS Z Z Z) trivial)))))))) ?_))
 refine jw [6] Z (b0 ?_)
 refine ea ?_
 refine⟨.inl Z,_,Ent.freeze 14000 (e':=[(6,_)]) Z (fe [6] Z) (.cons Z (.box (dw Z (.cons (.row Z (bQ _).symm) .nil))) (aZ Z (bh Z (bh Z (bh Z (aZ Z (bh Z (bh Z (.cons Z .map (.skip .nil)))))))))),_,Z,Z,Z⟩
abbrev Kt(c:Pc)(g:Gs)(frm:Int)(w:Pw):List (Nat×B):=[(0,iB c g 1 8 3),(1,aY g.paths),(3,bn c.num),(4,iW frm w 5 6 7),(5,aN w.vars),(6,aN w.facts),(7,aO w.ev),(8,aW g.conds)]
def eA(w:Pw)(t:Tm)(g:Gs):Gs:=(g.goal w t).flag (!t.ok)
theorem xp{t:Tm}(hg:g.conds.length+1≤L):MQ h1 h2 115 [.c (.pt 0 0 0),.c (.pt 4 0 0),db t] (iH c g frm w) (bb (.tup []) (Kt c (eA w t g) frm w)):=by
 refine MC.shift 500 Z (MC.keep [500,501,503,504,505,506,507,508] (bs:=[iB c (eA w t g) 501 508 503,aY (eA w t g).paths,bn c.num,iW frm w 505 506 507,aN w.vars,aN w.facts,aO w.ev,aW (eA w t g).conds]) Z Z (jH 31 [500,501,502,503,504,505,506,507] h1 h2 Tryz.func115 Z fun O hF=>?_))
 refine b0 ?_
 refine ae (jx Z (aq ?_))
 refine ar (Ent.freeze 5 (e':=[(5,_),(0,_),(1,_)]) Z (.cons Z (.c (.box (cs:=Tm.cells t) Z (aE Z))) (fe [0,1] Z)) (.skip (aZ Z (bh Z (bh Z (.cons Z .map (aZ Z (bh Z (bh Z (bh Z .nil)))))))))) ?_
 refine aq ?_
 refine jn (af (rC [_,_,_,_,_,_,_,_,_,_] [aF,ag [0],ag [0,1],ag [0,1,2],pe [0,1,2,3] 0,pn [] 0 1,pe [0,1,2,3,4,5] 1,pn [0,1,2,3,4,5,6] 2 2,pn [] 0 2,pe [0,1,2,3,4,5,6,7,8] 2] [4,6,9] 8 6 (.box [.d .nils,.d (.int .i64 0),.d .nils]) [_,_,_] [_] [[],[],[]] (kf Z Z Z (kf Z Z Z (kf Z Z Z (kf Z Z Z (ai (ai (aB (aI (dA O (B0:=12000) Z Z Z Z (B7 (ts:=w.facts) h1 h2) (.cons (.c (.whole Z (bQ _).symm)) .nil) Z Z Z Z Z)) (aI (dA O (B0:=12000) Z Z Z Z (B7 (ts:=w.facts) h1 h2) (.cons (.c (.whole Z (bQ _).symm)) .nil) Z Z Z Z Z))) Z) (ai (kf Z Z Z (kg Z Z Z)) (ai (ai (aB (aI (dA O (B0:=14000) Z Z Z Z (rP (t:=t) h1 h2) (ac Z) Z Z Z Z Z)) (aI (dA O (B0:=14000) Z Z Z Z (rP (t:=t) h1 h2) (ac Z) Z Z Z Z Z))) Z) (kf Z Z Z (ai (ai (ai (aI (Eff.alloc O Z Z Z Z Z Z)) Z) (ai (ai (aI (Eff.alloc O Z Z Z Z Z Z)) Z) (ai (aI (Eff.alloc O Z Z Z Z Z Z)) Z))) (ai (ai (aB trivial (aI (eS Z Z Z))) Z) trivial)))))))))) ?_))
 refine jw [6,5,0] Z (b0 ?_)
 refine af (ae (js Z (bP Z (mS (t:=t) h1 h2) 17000 Z (js Z (jn (ah Z (fun z17=>?_) (fun z17=>?_)))))))
 refine ak (aH Z (jo Z (aq ?_)))
 refine jn (kJ [_,_,_,_,_,_,_,_,_,_,_] [pn [] 0 2,pn [] 0 1,pn [1] 0 1,pn [1,2] 0 1,pn [1,2,3] 0 1,aF,pe [5] 0,pe (rg 1 6) 1,pn (rg 0 8) 2 2,pn (rg 0 9) 2 2,pe (rg 0 10) 2] [6,7,10] [_,_,_,_] [[12000,14000],[502,27],[]] (ai (ka Z Z (ka Z Z (kw Z Z))) (ai (ka Z Z (kw Z Z)) (ai (ka Z Z (kw Z Z)) (ai (ka Z Z (kw Z Z)) (ai (ka Z Z (kw Z Z)) (ka Z Z (ai (ai (lD [12000,14000] (ds:=Sq.cells (⟨w.facts,t⟩:Sq)) O Z Z Z Z Z Z Z Z Z Z Z Z (fun e=>.rs Z (bQ _).symm (.d Z (.rs Z (bQ _).symm .nil))) Z Z) Z) (ai (ai (dJ (xs:=g.conds.map Sq.cells) (ys:=[Sq.cells (⟨w.facts,t⟩:Sq)]) (zs:=(g.conds++[(⟨w.facts,t⟩:Sq)]).map Sq.cells) (n:=(g.conds++[(⟨w.facts,t⟩:Sq)]).length) O Z Z Z Z Z Z Z Z Z Z Z Z Z Z Z Z (.row Z (bQ _).symm) Z Z (by decide) Z (by simp;omega) (by simp;omega) (by simp) (by simp) Z) Z) (ka Z Z (ka Z Z (ai (ai (aI (eS Z Z Z)) Z) trivial))))))))))) ?_)
 show _∧_
 have hok:t.ok=false:=by simpa using z17
 rw[show eA w t g=⟨g.paths,g.conds++[(⟨w.facts,t⟩:Sq)],true⟩ by rw[eA,hok];simp[Gs.flag,Gs.goal]]
 refine⟨.inr Z,_,aa 28 508 Z Z,_,Z,Z,Z⟩
 refine aj (jw [6,5,0] Z (kJ [_,_,_,_,_,_,_,_,_,_,_] [pn [] 0 2,pn [] 0 1,pn [1] 0 1,pn [1,2] 0 1,pn [1,2,3] 0 1,aF,pe [5] 0,pe (rg 1 6) 1,pn (rg 0 8) 2 2,pn (rg 0 9) 2 2,pe (rg 0 10) 2] [6,7,10] [_,_,_,_] [[12000,14000],[502,27],[]] (ai (ka Z Z (ka Z Z (kw Z Z))) (ai (ka Z Z (kw Z Z)) (ai (ka Z Z (kw Z Z)) (ai (ka Z Z (kw Z Z)) (ai (ka Z Z (kw Z Z)) (ka Z Z (ai (ai (lD [12000,14000] (ds:=Sq.cells (⟨w.facts,t⟩:Sq)) O Z Z Z Z Z Z Z Z Z Z Z Z (fun e=>.rs Z (bQ _).symm (.d Z (.rs Z (bQ _).symm .nil))) Z Z) Z) (ai (ai (dJ (xs:=g.conds.map Sq.cells) (ys:=[Sq.cells (⟨w.facts,t⟩:Sq)]) (zs:=(g.conds++[(⟨w.facts,t⟩:Sq)]).map Sq.cells) (n:=(g.conds++[(⟨w.facts,t⟩:Sq)]).length) O Z Z Z Z Z Z Z Z Z Z Z Z Z Z Z Z (.row Z (bQ _).symm) Z Z (by decide) Z (by simp;omega) (by simp;omega) (by simp) (by simp) Z) Z) (ka Z Z (ka Z Z (ai (ai (aI (eS Z Z Z)) Z) trivial))))))))))) ?_))
 show _∧_
 have hok:t.ok=true:=by simpa using z17
 rw[show eA w t g=⟨g.paths,g.conds++[(⟨w.facts,t⟩:Sq)],g.bad⟩ by rw[eA,hok];simp[Gs.flag,Gs.goal]]
 refine⟨.inr Z,_,aa 28 508 Z Z,_,Z,Z,Z⟩
abbrev Ks(c:Pc)(g:Gs)(frm:Int)(w:Pw):List (Nat×B):=[(0,iB c g 1 2 3),(1,aY g.paths),(2,aW g.conds),(3,bn c.num),(4,iW frm w 5 9 7),(5,aN w.vars),(7,aO w.ev),(9,aN w.facts)]
theorem wF{g:Gs}:g.flag true=⟨g.paths,g.conds,true⟩:=by simp[Gs.flag]
theorem o0{g:Gs}:g.flag false=g:=by simp[Gs.flag]
theorem xo{t:Tm}(hl:w.facts.length≤1000):MQ h1 h2 116 [.c (.pt 0 0 0),.c (.pt 4 0 0),db t] (iH c g frm w) (bb (.tup []) (Ks c (g.flag (w.fact t).long) frm (w.fact t))):=by
 refine MC.shift 500 Z (MC.keep [500,501,502,503,504,505,507,509] (bs:=[iB c (g.flag (w.fact t).long) 501 502 503,aY (g.flag (w.fact t).long).paths,aW (g.flag (w.fact t).long).conds,bn c.num,iW frm (w.fact t) 505 509 507,aN (w.fact t).vars,aO (w.fact t).ev,aN (w.fact t).facts]) Z Z (jH 25 [500,501,502,503,504,505,506,507] h1 h2 Tryz.func116 Z fun O hF=>?_))
 refine b0 ?_
 refine ae (jx Z (aq ?_))
 refine ar (Ent.freeze 5 (e':=[(5,_),(0,_),(1,_)]) Z (.cons Z (.c (.box (cs:=Tm.cells t) Z (aE Z))) (fe [0,1] Z)) (.skip (aZ Z (bh Z (bh Z (.cons Z .map (aZ Z (bh Z (bh Z (bh Z .nil)))))))))) ?_
 refine aq ?_
 refine jn (af (rC [_,_,_,_,_,_,_,_,_,_,_] [pn [] 0 1,aF,ag [1],ag [1,2],ag [1,2,3],aF,ag [5],pe [1,2,3,4,5,6] 0,pn [0,1,2,3,4,5,6,7] 1 1,pn [0,1,2,3,4,5,6,7,8] 1 1,pe [0,1,2,3,4,5,6,7,8,9] 1] [7,10] 6 12 (.row false 2 [Tm.cells t]) [_] [_,_] [[506],[]] (ai (kf Z Z Z (kg Z Z Z)) (kf Z Z Z (kf Z Z Z (kf Z Z Z (kf Z Z Z (kf Z Z Z (ai (ai (aI (cQ O Z Z Z Z Z Z Z Z Z Z Z Z Z Z)) Z) (ai (ai (aB trivial (cp (own:=false) (xs:=w.facts.map Tm.cells) (ys:=[Tm.cells t]) (zs:=((w.facts++[t])).map Tm.cells) (n:=(w.facts++[t]).length) O Z Z Z Z Z Z Z Z Z Z Z Z Z Z Z Z (.row Z (bQ _).symm) (.whole Z Z (.inr ⟨Z,Z⟩)) (by simp) Z (by simp;omega) (by simp;omega) (by simp) (by simp) Z)) Z) (ai (ai (aB trivial (V Z)) Z) (ai (ai (aB trivial (V Z)) Z) (ai (ai (aB trivial (aI (eS Z Z Z))) Z) trivial))))))))))) ?_))
 refine jw [0,1] Z (b0 ?_)
 refine ae (az Z (av (eF O Z Z (by simp only[cG,dL];omega)) Z (js Z (jn (ah Z (fun z21=>?_) (fun z21=>?_))))))
 refine ak (aH Z (jo Z (aq ?_)))
 refine jn ?_
 show _∧_
 have hlo:(w.fact t).long=true:=decide_eq_true (by show 12<(w.facts++[t]).length;have:=bK z21;omega)
 rw[hlo,wF]
 refine⟨.inr Z,_,aa 13 509 Z Z,_,Z,Z,Z⟩
 refine aj ?_
 show _∧_
 have hlo:(w.fact t).long=false:=decide_eq_false (by show¬12<(w.facts++[t]).length;have:=cu z21;omega)
 rw[hlo,o0]
 refine⟨.inr Z,_,aa 13 509 Z Z,_,Z,Z,Z⟩
def bT:dM:=fun t=>(io [⟨7,[]⟩,t] [1,-1],(io [⟨7,[]⟩,t] [1,-1]).ok)
theorem yT{w:Pw}{t:Tm}{g:Gs}(ht:t.ok=true):eA w (bT t).1 (eA w t g)=kT bT w t g:=by
 simp only[eA,kT,bT,ht,Gs.goal,Gs.flag,Bool.not_true,Bool.or_false]
theorem Et{t:Tm}(ht:t.ok=true):CtxOk [⟨7,[]⟩,t]:=by
 refine⟨fun u hu=>?_,by simp⟩
 rcases List.mem_cons.1 hu with rfl|hu
 decide
 rcases List.mem_cons.1 hu with rfl|hu
 exact ht
 cases hu
theorem DP{t:Tm}(ht:t.ok=true)(hg:g.conds.length+2≤L):MQ h1 h2 113 [.c (.pt 0 0 0),.c (.pt 4 0 0),db t] (iH c g frm w) (bb (.tup []) (Kt c (kT bT w t g) frm w)):=by
 refine MC.shift 500 Z (MC.keep [500,501,503,504,505,506,507,508] (bs:=[iB c (kT bT w t g) 501 508 503,aY (kT bT w t g).paths,bn c.num,iW frm w 505 506 507,aN w.vars,aN w.facts,aO w.ev,aW (kT bT w t g).conds]) Z Z (jH 20 [500,501,502,503,504,505,506,507] h1 h2 Tryz.func113 Z fun O hF=>?_))
 refine b0 ?_
 refine ae (jx Z (aq ?_))
 refine ar (Ent.freeze 5 (e':=[(5,_),(0,_),(1,_)]) Z (.cons Z (.c (.box (cs:=Tm.cells t) Z (aE Z))) (fe [0,1] Z)) (.skip (aZ Z (bh Z (bh Z (.cons Z .map (aZ Z (bh Z (bh Z (bh Z .nil)))))))))) ?_
 refine aq ?_
 refine ba (aH Z (au O [500,501,502,503,504,505,506,507] (bin:=[iB c g 1 2 3,aY g.paths,aW g.conds,bn c.num,iW frm w 5 6 7,aN w.vars,aN w.facts,aO w.ev]) Z Z Z Z (xp (c:=c) (g:=g) (frm:=frm) (w:=w) (t:=t) h1 h2 (by omega)) Z Z Z Z Z Z (B0:=11000) Z Z (aq ?_)))
 refine ba (ab Z (aU (bp O Z Z Z Z Z Z Z Z Z Z Z) Z (aq ?_)))
 refine ar (Ent.rowLe 13 Z (.cons (aQ (.cons (.nil (sz:=1)) .nil)) (.cons (aQ (.cons .refl .nil)) .nil))) (aq ?_)
 refine aq ?_
 refine aU (bO O Z Z Z) Z (aq ?_)
 refine ar (Ent.freeze 13 (e':=[(14,_),(13,_),(0,_),(1,_)]) Z (.cons Z (.keep Z) (.cons Z (.c (.row Z Z)) (fe [0,1] Z))) (.skip (bh Z (aZ Z (bh Z (.cons Z .map (aZ Z (bh Z (bh Z (bh Z (bh Z .nil))))))))))) ?_
 refine ar (Ent.freeze 14 (e':=[(14,_),(13,_),(0,_),(1,_)]) Z (.cons Z (.c (.row Z Z)) (fe [13,0,1] Z)) (.skip (aZ Z (bh Z (.cons Z .map (aZ Z (bh Z (bh Z (bh Z (bh Z .nil)))))))))) ?_
 refine aq ?_
 refine an O Z Z Z Z (B9 (ts:=[⟨7,[]⟩,t]) (ms:=[1,-1]) h1 h2 (Et ht) (by decide) (da _)) (ac Z) Z Z Z Z (B0:=16000) Z Z (jl Z (aq ?_))
 refine jo Z (aq ?_)
 refine jn (ak (aH Z (au O [500,501,11008,503,504,505,506,507] (bin:=[iB c (eA w t g) 1 2 3,aY (eA w t g).paths,aW (eA w t g).conds,bn c.num,iW frm w 5 6 7,aN w.vars,aN w.facts,aO w.ev]) Z Z Z Z (xp (c:=c) (g:=(eA w t g)) (frm:=frm) (w:=w) (t:=(bT t).1) h1 h2 (by simp only[eA,Gs.flag,Gs.goal,cG,dL];omega)) Z Z Z Z Z Z (B0:=20000) Z Z (aq ?_))))
 refine jn ?_
 show _∧_
 rw[←yT ht]
 refine⟨.inr Z,_,aa 20008 508 Z Z,_,Z,Z,Z⟩
abbrev iHE(c:Pc)(g:Gs)(frm:Int)(w:Pw):List (Nat×B):=[(0,iB c g 9 8 3),(3,bn c.num),(4,iW frm w 5 6 7),(5,aN w.vars),(6,aN w.facts),(7,aO w.ev),(8,aW g.conds),(9,aY g.paths)]
theorem yy{w:Pw}{t:Tm}{g:Gs}:eA w (aR t w.vars).1 (bk w t g)=bE w g t:=by
 simp only[eA,fo,bE,Gs.flag,Bool.not_true,Bool.or_false]
theorem tl{w:Pw}(hw:CtxOk w.vars)(hv:w.vars.length=4):fS w.vars 10=true:=by
 unfold fS
 rw[List.all_eq_true.2 hw.ok,decide_eq_true (by omega)];rfl
theorem zX{to:Int}{fs:List Tm}(hw:CtxOk w.vars)(hv:w.vars.length=4)(hf:TsOk fs)(hg:g.conds.length+fs.length≤L)(hp:g.paths.length+1≤L):MQ h1 h2 112 [.c (.pt 0 0 0),.c (.pt 4 0 0),eI to,cb fs] (iH c g frm w) (bb (.tup []) (iHE c (dP frm w to fs g) frm w)):=by
 refine MC.shift 500 Z (MC.keep [500,503,504,505,506,507,508,509] (bs:=[iB c (dP frm w to fs g) 509 508 503,bn c.num,iW frm w 505 506 507,aN w.vars,aN w.facts,aO w.ev,aW (dP frm w to fs g).conds,aY (dP frm w to fs g).paths]) Z Z (jH 63 [500,501,502,503,504,505,506,507] h1 h2 Tryz.func112 Z fun O hF=>?_))
 refine b0 ?_
 have hpe:(fs.foldl (bE w) g).paths.length=g.paths.length:=congrArg List.length iJ
 have hva:=tl hw hv
 have hll:fs.length≤L:=by omega
 refine af (ae (js Z (dh Z (js Z (jn (ao (aw (X:=Nat) (fun i=>⟨[(0,.c (.pt 500 0 0)),(1,.c (.pt 504 0 0)),(2,eI to),(10,cb fs),(11,eI fs.length),(12,eI i)],[(500,iB c ((fs.take i).foldl (bE w) g) 501 902 503),(501,aY ((fs.take i).foldl (bE w) g).paths),(503,bn c.num),(504,iW frm w 505 506 507),(505,aN w.vars),(506,aN w.facts),(507,aO w.ev),(902,aW ((fs.take i).foldl (bE w) g).conds)]⟩) (fun i=>i≤fs.length) (fun i=>fs.length-i) 0 (((am [500,501,503,504,505,506,507,502] (e':=[(0,_),(1,_),(2,_),(10,_),(11,_),(12,_)]) Z Z ⟨Z,Z,Z,Z,Z,Z,ap⟩ Z).trans (aa 502 902 Z Z)).trans (Ent.to ⟨Z,Z,Z,Z,Z,Z,ap⟩ Z)) ?_ (fun i hi=>?_))))))))
 exact cT _
 refine ae (js Z (jn (af (ah Z (fun z13=>?_) (fun z13=>?_)))))
 refine aj (af (ao (ae (jD Z Z (js Z (jl Z (aq ?_)))))))
 refine jo Z (aq ?_)
 refine jn (ak (az Z (js Z ?_)))
 have hil:i<fs.length:=by have:=bK z13;omega
 have hfi:=hf.get hil
 have hci:=mK (w:=w) (fs:=fs.take i) (g:=g)
 rw[List.length_take,Nat.min_eq_left (by omega)]at hci
 refine au O [500,501,902,503,504,505,506,507] (bin:=[iB c ((fs.take i).foldl (bE w) g) 1 2 3,aY ((fs.take i).foldl (bE w) g).paths,aW ((fs.take i).foldl (bE w) g).conds,bn c.num,iW frm w 5 6 7,aN w.vars,aN w.facts,aO w.ev]) Z Z Z Z (oN (c:=c) (g:=((fs.take i).foldl (bE w) g)) (frm:=frm) (w:=w) (t:=(fs.getD i default)) h1 h2 hfi.1 hva (by omega)) Z Z Z Z Z Z (B0:=22000) Z Z (aq ?_)
 refine au O [500,501,902,503,504,505,506,507] (bin:=[iB c (bk w (fs.getD i default) ((fs.take i).foldl (bE w) g)) 1 2 3,aY (bk w (fs.getD i default) ((fs.take i).foldl (bE w) g)).paths,aW (bk w (fs.getD i default) ((fs.take i).foldl (bE w) g)).conds,bn c.num,iW frm w 5 6 7,aN w.vars,aN w.facts,aO w.ev]) Z Z Z Z (xp (c:=c) (g:=(bk w (fs.getD i default) ((fs.take i).foldl (bE w) g))) (frm:=frm) (w:=w) (t:=(aR (fs.getD i default) w.vars).1) h1 h2 (show((fs.take i).foldl (bE w) g).conds.length+1≤L by omega)) Z Z Z Z Z Z (B0:=23000) Z Z (aq ?_)
 refine jn (ak (ji Z (js Z (jn ?_))))
 refine⟨i+1,((am [500,501,503,504,505,506,507,23008] (e':=[(0,_),(1,_),(2,_),(10,_),(11,_),(12,_)]) Z Z ⟨Z,Z,Z,Z,Z,Z,ap⟩ Z).trans (aa 23008 902 Z Z)).trans (Ent.to ⟨Z,Z,Z,Z,Z,Z,ap⟩ (by rw[sg hil,←yy];rfl)),by omega,by omega⟩
 refine bg (af ?_)
 obtain rfl:i=fs.length:=by have:=cu z13;omega
 rw[List.take_length]
 refine kJ [_,_,_,_,_,_,_,_,_,_,_,_,_,_,_,_,_,_,_,_,_,_,_,_,_,_,_,_,_,_,_] [pn [] 0 5,pn [] 0 4,pn [1] 0 4,pn [1,2] 0 4,pn [1,2,3] 0 4,pn [] 0 3,pn [5] 0 3,pn [5,6] 0 3,pn [5,6,7] 0 3,pn [] 0 3,aF,ag [10],ag [10,11],ag [10,11,12],pe (rg 10 4) 0,pn [] 0 1,pn [15] 0 1,pn [15,16] 0 1,pn [15,16,17] 0 1,pe (rg 10 9) 1,pn [] 0 2,pn [20] 0 2,pn [20,21] 0 2,pn [20,21,22] 0 2,pe (rg 10 14) 2,pn (rg 5 20) 3 3,pe (rg 5 21) 3,pe (rg 1 26) 4,pn (rg 0 28) 5 5,pn (rg 0 29) 5 5,pe (rg 0 30) 5] [14,19,24,26,27,30] [_,_,_,_,_,_,_] [[],[],[],[39000,44000,49000],[501,50],[]] (ai (ka Z Z (ka Z Z (ka Z Z (ka Z Z (ka Z Z (kw Z Z)))))) (ai (ka Z Z (ka Z Z (ka Z Z (ka Z Z (kw Z Z))))) (ai (ka Z Z (ka Z Z (ka Z Z (ka Z Z (kw Z Z))))) (ai (ka Z Z (ka Z Z (ka Z Z (ka Z Z (kw Z Z))))) (ai (ka Z Z (ka Z Z (ka Z Z (ka Z Z (kw Z Z))))) (ai (ka Z Z (ka Z Z (ka Z Z (kw Z Z)))) (ai (ka Z Z (ka Z Z (ka Z Z (kw Z Z)))) (ai (ka Z Z (ka Z Z (ka Z Z (kw Z Z)))) (ai (ka Z Z (ka Z Z (ka Z Z (kw Z Z)))) (ai (ka Z Z (ka Z Z (ka Z Z (kw Z Z)))) (ka Z Z (ka Z Z (ka Z Z (ka Z Z (ai (ai (aI (dA O (B0:=39000) Z Z Z Z (B7 (ts:=w.facts) h1 h2) (.cons (.c (.whole Z (bQ _).symm)) .nil) Z Z Z Z Z)) Z) (ai (ka Z Z (kw Z Z)) (ai (ka Z Z (kw Z Z)) (ai (ka Z Z (kw Z Z)) (ai (ka Z Z (kw Z Z)) (ai (ai (aI (dA O (B0:=44000) Z Z Z Z (B7 (ts:=w.vars) h1 h2) (.cons (.c (.whole Z (bQ _).symm)) .nil) Z Z Z Z Z)) Z) (ai (ka Z Z (ka Z Z (kw Z Z))) (ai (ka Z Z (ka Z Z (kw Z Z))) (ai (ka Z Z (ka Z Z (kw Z Z))) (ai (ka Z Z (ka Z Z (kw Z Z))) (ai (ai (aI (dA O (B0:=49000) Z Z Z Z (vL (xs:=w.ev) h1 h2) (.cons (.c (.whole Z (bQ _).symm)) .nil) Z Z Z Z Z)) Z) (ka Z Z (ai (ai (lD [39000,44000,49000] (ds:=Pth.cells (⟨frm,to,w.facts,w.vars,w.ev⟩:Pth)) O Z Z Z Z Z Z Z Z Z Z Z Z (fun e=>.d Z (.d Z (.rs Z (bQ _).symm (.rs Z (bQ _).symm (.rs Z (bQ _).symm .nil))))) Z Z) Z) (ai (ai (dJ (xs:=(fs.foldl (bE w) g).paths.map Pth.cells) (ys:=[Pth.cells (⟨frm,to,w.facts,w.vars,w.ev⟩:Pth)]) (zs:=((fs.foldl (bE w) g).paths++[(⟨frm,to,w.facts,w.vars,w.ev⟩:Pth)]).map Pth.cells) (n:=((fs.foldl (bE w) g).paths++[(⟨frm,to,w.facts,w.vars,w.ev⟩:Pth)]).length) O Z Z Z Z Z Z Z Z Z Z Z Z Z Z Z Z (.row Z (bQ _).symm) Z Z (by decide) Z (by simp;omega) (by simp;omega) (by simp) (by simp) Z) Z) (ka Z Z (ka Z Z (ai (ai (aI (eS Z Z Z)) Z) trivial))))))))))))))))))))))))))))))) ?_
 refine jw [13,0,1,2,10,11,12] Z (b0 ?_)
 refine ae (az Z (av (eF O Z Z (by simp only[cG,dL];omega)) Z (js Z (jn (ah Z (fun z59=>?_) (fun z59=>?_))))))
 refine ak (aH Z (jo Z (aq ?_)))
 refine jn ?_
 show _∧_
 have hlo:decide (200<(fs.foldl (bE w) g).paths.length+1)=true:=decide_eq_true (by show 200<(fs.foldl (bE w) g).paths.length+1;have:=bK z59;rw[cG,dL]at this;omega)
 rw[show(dP frm w to fs g)=⟨(fs.foldl (bE w) g).paths++[(⟨frm,to,w.facts,w.vars,w.ev⟩:Pth)],(fs.foldl (bE w) g).conds,true⟩ by unfold dP jL;rw[hlo];simp]
 refine⟨.inr Z,_,(aa 51 509 Z Z).trans (aa 902 508 Z Z),_,Z,Z,Z⟩
 refine aj ?_
 show _∧_
 have hlo:decide (200<(fs.foldl (bE w) g).paths.length+1)=false:=decide_eq_false (by show¬200<(fs.foldl (bE w) g).paths.length+1;have:=cu z59;rw[cG,dL]at this;omega)
 rw[show(dP frm w to fs g)=⟨(fs.foldl (bE w) g).paths++[(⟨frm,to,w.facts,w.vars,w.ev⟩:Pth)],(fs.foldl (bE w) g).conds,(fs.foldl (bE w) g).bad⟩ by unfold dP jL;rw[hlo];simp]
 refine⟨.inr Z,_,(aa 51 509 Z Z).trans (aa 902 508 Z Z),_,Z,Z,Z⟩
theorem FF(hs:w.sym=10):MQ h1 h2 114 [.c (.pt 0 0 0),.c (.pt 4 0 0)] (iH c g frm w) (bb (.agg [.d (.int .i64 0),.d .nils]) (iH c (⟨g.paths,g.conds,true⟩:Gs) frm w)):=by
 refine MC.shift 500 Z (MC.keep [500,501,502,503,504,505,506,507] (bs:=[iB c (⟨g.paths,g.conds,true⟩:Gs) 501 502 503,aY (⟨g.paths,g.conds,true⟩:Gs).paths,aW (⟨g.paths,g.conds,true⟩:Gs).conds,bn c.num,iW frm w 505 506 507,aN w.vars,aN w.facts,aO w.ev]) Z Z (jH 27 [500,501,502,503,504,505,506,507] h1 h2 Tryz.func114 Z fun O hF=>?_))
 refine b0 ?_
 refine ae (jl Z (aq ?_))
 refine jn (af (ae (az Z (js Z (jn (ah Z (fun z9=>?_) (fun z9=>?_)))))))
 refine ae (aH Z (jo Z (aq ?_)))
 refine ba (js Z (jo Z (aq ?_)))
 refine jr ?_
 refine⟨.inl Z,_,b9,_,Z,Z,Z⟩
 exact absurd (cu z9) (by omega)
theorem Iv(hs:w.sym<10):MQ h1 h2 114 [.c (.pt 0 0 0),.c (.pt 4 0 0)] (iH c g frm w) (bb (db (iV w.sym)) (iH c g frm (⟨w.vars,w.facts,w.ev,w.sym+1⟩:Pw))):=by
 refine MC.shift 500 Z (MC.keep [500,501,502,503,504,505,506,507] (bs:=[iB c g 501 502 503,aY g.paths,aW g.conds,bn c.num,iW frm (⟨w.vars,w.facts,w.ev,w.sym+1⟩:Pw) 505 506 507,aN (⟨w.vars,w.facts,w.ev,w.sym+1⟩:Pw).vars,aN (⟨w.vars,w.facts,w.ev,w.sym+1⟩:Pw).facts,aO (⟨w.vars,w.facts,w.ev,w.sym+1⟩:Pw).ev]) Z Z (jH 27 [500,501,502,503,504,505,506,507] h1 h2 Tryz.func114 Z fun O hF=>?_))
 refine b0 ?_
 refine ae (jl Z (aq ?_))
 refine jn (af (ae (az Z (js Z (jn (ah Z (fun z9=>?_) (fun z9=>?_)))))))
 exact absurd (bK z9) (by omega)
 refine aj (ae (az Z (av ((vF Z).cast (v':=eI ((w.sym+1:Nat):Int)) (congrArg eI (by omega))) Z (ab Z (jo Z (aq ?_))))))
 refine ba (az Z (av ((vF Z).cast (v':=eI ((w.sym:Nat):Int)) (congrArg eI (by omega))) Z (an O Z Z Z Z (DQ (k:=w.sym) h1 h2 hs) (ac Z) Z Z Z Z (B0:=27000) Z Z (jo Z (aq ?_)))))
 refine jr ?_
 refine⟨.inl Z,_,b9,_,Z,Z,Z⟩
theorem Ic{c:Tm}{r:List Tm}(hl:(c::r).length≤1000):MQ h1 h2 110 [.c (.rs 0 0 (c::r).length)] [(0,aN (c::r))] (bb (.c (.rs 1 0 (c::r).length)) [(0,aN (c::r)),(1,aN (c::r))]):=by
 refine MC.shift 500 Z (MC.keep [500,501] (bs:=[aN (c::r),aN (c::r)]) Z Z (jH 8 [500] h1 h2 Tryz.func110 Z fun O hF=>?_))
 refine b0 ?_
 refine ae (js Z (jn (af (ae (ab Z (jn (ah Z (fun z4=>?_) (fun z4=>?_))))))))
 exact c5 z4
 refine aj (ae (aU (bO O Z Z Z) Z (aq ?_)))
 refine js Z ?_
 have hl2:=hl
 simp only[eH]at hl2
 refine ar (dr 5 Z) (aU (cU (own:=false) (zs:=(c::r).map Tm.cells) (n:=(c::r).length) O Z (.row Z Z) (.whole Z (by simp) (.inr ⟨Z,Z⟩)) (by simp) Z (by simp;omega) (by simp;omega) Z (by simp)) Z (aq ?_))
 refine js Z (jr ?_)
 refine⟨.inl Z,_,aa 7 501 Z Z,_,Z,Z,Z⟩
theorem Ia:MQ h1 h2 110 [.c (.rs 0 0 0)] [(0,aN [])] (bb (.c (.rs 1 0 0)) [(0,aN []),(1,aN [])]):=by
 refine MC.shift 500 Z (MC.keep [500,501] (bs:=[aN [],aN []]) Z Z (jH 8 [500] h1 h2 Tryz.func110 Z fun O hF=>?_))
 refine b0 ?_
 refine ae (js Z (jn (af (ae (js Z (pj O Z Z Z Z Z Z Z Z Z Z (fun b=>?_)))))))
 refine jn (ah Z (fun _=>?_) (fun _=>?_))
 refine ae (js Z (jr ?_))
 refine⟨.inl Z,_,cL 2 501 2 false Z Z,_,Z,Z,Z⟩
 refine aj (ae (aU (bO O Z Z Z) Z (aq ?_)))
 refine js Z (ar (dr 5 Z) (aU (cU (own:=false) (zs:=[]) (n:=0) O Z (.row Z Z) (.whole Z (by simp) (.inr ⟨Z,Z⟩)) (by simp) Z (by simp) (by simp) Z (by simp)) Z (aq ?_)))
 refine js Z (jr ?_)
 refine⟨.inl Z,_,aa 7 501 Z Z,_,Z,Z,Z⟩
theorem DH{L:Nat}(h1:4096≤L)(h2:L≤1073741824){ts:List Tm}(hl:ts.length≤1000):MC Tryz.prog L 110 [.c (.rs 0 0 ts.length)] [(0,aN ts)] (bb (.c (.rs 1 0 ts.length)) [(0,aN ts),(1,aN ts)]):=by
 cases ts with
 | nil=>exact Ia h1 h2
 | cons c r=>exact Ic h1 h2 hl
theorem Fx{c:Int}{r:List Int}(hl:(c::r).length≤1000):MQ h1 h2 159 [.c (.rs 0 0 (c::r).length)] [(0,aO (c::r))] (bb (.c (.rs 1 0 (c::r).length)) [(0,aO (c::r)),(1,aO (c::r))]):=by
 refine MC.shift 500 Z (MC.keep [500,501] (bs:=[aO (c::r),aO (c::r)]) Z Z (jH 8 [500] h1 h2 Tryz.func159 Z fun O hF=>?_))
 refine b0 ?_
 refine ae (js Z (jn (af (ae (ab Z (jn (ah Z (fun z4=>?_) (fun z4=>?_))))))))
 exact c5 z4
 refine aj (ae (aU (bO O Z Z Z) Z (aq ?_)))
 refine js Z ?_
 have hl2:=hl
 simp only[eH]at hl2
 refine aU (cU (own:=true) (zs:=(c::r).map (fun n=>[D.int .i64 n])) (n:=(c::r).length) O Z (.row Z Z) (.whole Z (by simp) (.inl (Scal.map (fun a=>rfl)))) (by simp) Z (by simp;omega) (by simp;omega) Z (by simp)) Z (aq ?_)
 refine js Z (jr ?_)
 refine⟨.inl Z,_,aa 7 501 Z Z,_,Z,Z,Z⟩
theorem Fw:MQ h1 h2 159 [.c (.rs 0 0 0)] [(0,aO [])] (bb (.c (.rs 1 0 0)) [(0,aO []),(1,aO [])]):=by
 refine MC.shift 500 Z (MC.keep [500,501] (bs:=[aO [],aO []]) Z Z (jH 8 [500] h1 h2 Tryz.func159 Z fun O hF=>?_))
 refine b0 ?_
 refine ae (js Z (jn (af (ae (js Z (pj O Z Z Z Z Z Z Z Z Z Z (fun b=>?_)))))))
 refine jn (ah Z (fun _=>?_) (fun _=>?_))
 refine ae (js Z (jr ?_))
 refine⟨.inl Z,_,cL 2 501 1 true Z Z,_,Z,Z,Z⟩
 refine aj (ae (aU (bO O Z Z Z) Z (aq ?_)))
 refine js Z (aU (cU (own:=true) (zs:=[]) (n:=0) O Z (.row Z Z) (.whole Z (by simp) (.inl (Scal.map (fun a=>rfl)))) (by simp) Z (by simp) (by simp) Z (by simp)) Z (aq ?_))
 refine js Z (jr ?_)
 refine⟨.inl Z,_,aa 7 501 Z Z,_,Z,Z,Z⟩
theorem Fu{L:Nat}(h1:4096≤L)(h2:L≤1073741824){ts:List Int}(hl:ts.length≤1000):MC Tryz.prog L 159 [.c (.rs 0 0 ts.length)] [(0,aO ts)] (bb (.c (.rs 1 0 ts.length)) [(0,aO ts),(1,aO ts)]):=by
 cases ts with
 | nil=>exact Fw h1 h2
 | cons c r=>exact Fx h1 h2 hl
theorem H9:MQ h1 h2 110 [.c (.d .nils)] [] (Plain (.c (.d .nils))):=by
 refine jB 8 h1 h2 Tryz.func110 Z fun O hF=>?_
 refine ae (js Z (jn (af (ae (ab Z (jn (ah Z (fun z4=>?_) (fun z4=>?_))))))))
 refine ae (js Z (jr ?_))
 refine aJ Z ?_
 exact⟨Z,Z⟩
 exact kQ z4
abbrev wA(frm:Int)(w:Pw)(i j k:Nat):A:=.agg [.d (.int .i64 frm),.rs i 0 w.vars.length,.d .nils,.rs j 0 w.facts.length,.rs k 0 w.ev.length,.d (.int .i64 (w.sym:Int))]
theorem xn(hv:w.vars.length≤1000)(hl:w.facts.length≤1000)(he:w.ev.length≤1000):MQ h1 h2 121 [wA frm w 0 1 2] [(0,aN w.vars),(1,aN w.facts),(2,aO w.ev)] (bb (wA frm w 3 4 5) [(0,aN w.vars),(1,aN w.facts),(2,aO w.ev),(3,aN w.vars),(4,aN w.facts),(5,aO w.ev)]):=by
 refine MC.shift 500 Z (MC.keep [500,501,502,503,504,505] (bs:=[aN w.vars,aN w.facts,aO w.ev,aN w.vars,aN w.facts,aO w.ev]) Z Z (jH 20 [500,501,502] h1 h2 Tryz.func121 Z fun O hF=>?_))
 refine b0 ?_
 refine ae (jx Z (aq ?_))
 refine jl Z (aq ?_)
 refine jn (af (fZ [_,_,_,_,_,_,_,_,_,_,_,_,_,_,_,_,_,_,_,_] [aF,ag [0],pe [0,1] 0,pn [] 0 1,pn [3] 0 1,pe (rg 0 5) 1,pn [] 0 2,pn [6] 0 2,pe (rg 0 8) 2,pn [] 0 3,pn [9] 0 3,pe (rg 0 11) 3,pn [0,1,2,3,4,6,7,9,10] 1 4,pe (rg 0 13) 4,pn (rg 0 14) 5 5,pe (rg 0 15) 5,pn (rg 0 16) 6 6,pe (rg 0 17) 6,pn (rg 0 18) 7 7,pe (rg 0 19) 7] [2,5,8,11,13,15,17,19] [_,_,_,_,_,_,_,_,_] (kc Z (kc Z (ai (ct O [500] (bin:=[aN w.vars]) Z Z Z Z (DH h1 h2 hv) Z Z Z Z Z (B0:=6000) Z Z Z Z Z Z) (ai (kc Z (V Z)) (ai (kc Z (V Z)) (ai (bv O (B0:=9000) Z Z Z Z (H9 h1 h2) (ac Z) Z Z Z Z Z) (ai (kc Z (kc Z (V Z))) (ai (kc Z (kc Z (V Z))) (ai (ct O [501] (bin:=[aN w.facts]) Z Z Z Z (DH h1 h2 hl) Z Z Z Z Z (B0:=12000) Z Z Z Z Z Z) (ai (kc Z (kc Z (kc Z (V Z)))) (ai (kc Z (kc Z (kc Z (V Z)))) (ai (ct O [502] (bin:=[aO w.ev]) Z Z Z Z (Fu h1 h2 he) Z Z Z Z Z (B0:=15000) Z Z Z Z Z Z) (ai (kc Z (kc Z (kc Z (V Z)))) (ai (eS Z Z Z) (kc Z (ai (eS Z Z Z) (kc Z (ai (eS Z Z Z) (kc Z (ai (eS Z Z Z) trivial)))))))))))))))))))) ?_))
 refine jw [2,1] Z (b0 ?_)
 refine ae (js Z (jo Z (aq ?_)))
 refine jr ?_
 refine⟨.inl Z,_,((aa 6001 503 Z Z).trans (aa 12001 504 Z Z)).trans (aa 15001 505 Z Z),_,Z,Z,Z⟩
theorem AH{t:Tm}{ok:Bool}:MQ h1 h2 119 [.c (.pt 0 0 0),db t,eB ok] [(0,iB c g 1 2 3),(1,aY g.paths),(2,aW g.conds),(3,bn c.num)] (bb (db t) [(0,iB c (g.flag (!ok)) 1 2 3),(1,aY (g.flag (!ok)).paths),(2,aW (g.flag (!ok)).conds),(3,bn c.num)]):=by
 refine MC.shift 500 Z (MC.keep [500,501,502,503] (bs:=[iB c (g.flag (!ok)) 501 502 503,aY (g.flag (!ok)).paths,aW (g.flag (!ok)).conds,bn c.num]) Z Z (jH 13 [500,501,502,503] h1 h2 Tryz.func119 Z fun O hF=>?_))
 refine b0 ?_
 refine ae (jx Z (aq ?_))
 refine jl Z (aq ?_)
 refine jn (af (ae (ab Z (jn (ah Z (fun z8=>?_) (fun z8=>?_))))))
 refine ak (aH Z (jo Z (aq ?_)))
 refine ba (js Z (jo Z (aq ?_)))
 refine jr ?_
 have hok:ok=false:=by simpa using z8
 subst hok
 rw[show g.flag (!false)=⟨g.paths,g.conds,true⟩from l8]
 refine⟨.inl Z,_,b9,_,Z,Z,Z⟩
 refine aj (ae (js Z (jo Z (aq ?_))))
 refine jr ?_
 have hok:ok=true:=by simpa using z8
 subst hok
 rw[show g.flag (!true)=g from iL]
 refine⟨.inl Z,_,b9,_,Z,Z,Z⟩
abbrev xB(d:D):B:=.box [.d d]
abbrev pB(l:Nat):B:=.box [.pt l 0 0]
abbrev iT(c:Pc)(g:Gs)(w:Pw)(d8 d9:D):List (Nat×B):=[(0,iB c g 1 2 3),(1,aY g.paths),(2,aW g.conds),(3,bn c.num),(4,aN w.vars),(5,aN w.facts),(6,aO w.ev),(7,pB 0),(8,xB d8),(9,xB d9)]
abbrev oT(c:Pc)(g:Gs)(d8 d9:D):List (Nat×B):=[(0,iB c g 10 11 3),(3,bn c.num),(7,pB 0),(8,xB d8),(9,xB d9),(10,aY g.paths),(11,aW g.conds)]
abbrev cS(w:Pw)(t:Tm)(g:Gs):Gs:=(g.flag (!(aX t).2)).flag (w.fact t).long
theorem nC{g:Gs}(h:g.bad=true){b:Bool}:g.flag b=g:=by cases g;simp only at h;simp[Gs.flag,h]
def pq(Y:Pw→Gs→Gs):Prop:= ∀u g,g.bad=true→Y u g=g
theorem Ad{Y:Pw→Gs→Gs}(hY:pq Y){w:Pw}{t u:Tm}{g:Gs}(hb:(Y (w.fact t) (cS w t g)).bad=false):(Y (w.fact t) (cS w t g)).flag (w.fact u).long=Y (w.fact t) (cS w t g):=by
 have h2:(cS w t g).bad=false:=by
  cases h:(cS w t g).bad with
  | false=>rfl
  | true=>rw[hY _ _ h,h]at hb;cases hb
 have h3:(w.fact t).long=false:=by simp[cS,Gs.flag]at h2;exact h2.2
 rw[tz (t:=u) (u:=t),h3,o0]
theorem Do{Y N:Pw→Gs→Gs}(hY:pq Y)(hN:pq N){w:Pw}{t:Tm}{g:Gs}(h:(g.flag (!(aX t).2)).bad=true):dT Y N w t g=g.flag (!(aX t).2):=by
 rw[dT,nC h,hY _ _ h,hN _ _ h]
theorem Dn{Y N:Pw→Gs→Gs}(hY:pq Y)(hN:pq N){w:Pw}{t:Tm}{g:Gs}(h:(cS w t g).bad=true):dT Y N w t g=cS w t g:=by
 rw[dT,hY _ _ h,hN _ _ h]
theorem Dm{Y N:Pw→Gs→Gs}(hN:pq N){w:Pw}{t:Tm}{g:Gs}(h:(Y (w.fact t) (cS w t g)).bad=true):dT Y N w t g=Y (w.fact t) (cS w t g):=by
 rw[dT,hN _ _ h]
theorem AI{L:Nat}(h1:4096≤L)(h2:L≤1073741824){c:Pc}{g:Gs}{frm:Int}{w:Pw}{t:Tm}(hl:w.facts.length≤1000)(he:g.flag (w.fact t).long=g):MC Tryz.prog L 116 [.c (.pt 0 0 0),.c (.pt 4 0 0),db t] (iH c g frm w) (bb (.tup []) (Ks c g frm (w.fact t))):=by
 have h:=xo h1 h2 (c:=c) (g:=g) (frm:=frm) (w:=w) (t:=t) hl
 rw[he]at h
 exact h
variable{d8:D}
theorem FJ{t:Tm}{d9:D}{fy fn:Nat}{Y N:Pw→Gs→Gs}(hY:pq Y)(hN:pq N)(ht:t.ok=true)(hv:w.vars.length≤1000)(hl:w.facts.length≤1000)(he:w.ev.length≤1000)
  (hy:(cS w t g).bad=false→MQ h1 h2 fy [wA frm (w.fact t) 4 5 6,.c (.pt 7 0 0),.c (.pt 8 0 0),.c (.pt 9 0 0)] (iT c (cS w t g) (w.fact t) d8 d9) (bb (.tup []) (oT c (Y (w.fact t) (cS w t g)) d8 d9))) (hn:(Y (w.fact t) (cS w t g)).bad=false→MQ h1 h2 fn [wA frm (w.fact (aX t).1) 4 5 6,.c (.pt 7 0 0),.c (.pt 8 0 0),.c (.pt 9 0 0)] (iT c (Y (w.fact t) (cS w t g)) (w.fact (aX t).1) d8 d9) (bb (.tup []) (oT c (N (w.fact (aX t).1) (Y (w.fact t) (cS w t g))) d8 d9))) :
  MQ h1 h2 73 [.c (.pt 0 0 0),wA frm w 4 5 6,db t,.c (.fn fy [.pt 7 0 0,.pt 8 0 0,.pt 9 0 0]),.c (.fn fn [.pt 7 0 0,.pt 8 0 0,.pt 9 0 0])] (iT c g w d8 d9) (bb (.tup []) (oT c (dT Y N w t g) d8 d9)):=by
 refine MC.shift 500 Z (MC.keep [500,503,507,508,509,510,511] (bs:=[iB c (dT Y N w t g) 510 511 503,bn c.num,pB 500,xB d8,xB d9,aY (dT Y N w t g).paths,aW (dT Y N w t g).conds]) Z Z (jH 53 [500,501,502,503,504,505,506,507,508,509] h1 h2 Tryz.func73 Z fun O hF=>?_))
 refine b0 ?_
 refine ae (jx Z (aq ?_))
 refine jx Z (aq ?_)
 refine ar (Ent.freeze 7 (e':=[(7,_),(6,_),(0,_),(3,_),(4,_)]) Z (.cons Z (.c (.box (cs:=Tm.cells t) Z (aE Z))) (fe [6,0,3,4] Z)) (aZ Z (.skip (aZ Z (bh Z (bh Z (.cons Z .map (bh Z (bh Z (bh Z (aZ Z (aZ Z (aZ Z .nil))))))))))))) ?_
 refine aq ?_
 refine ba (ab Z (an O Z Z Z Z (DO (t:=t) h1 h2 ht) (ac Z) Z Z Z Z (B0:=16000) Z Z (ab Z (au O [500,501,502,503] (bin:=[iB c g 1 2 3,aY g.paths,aW g.conds,bn c.num]) Z Z Z Z (AH (c:=c) (g:=g) (t:=(aX t).1) (ok:=(aX t).2) h1 h2) Z Z Z Z Z Z (B0:=19000) Z Z (aq ?_)))))
 refine jl Z (aq ?_)
 refine jo Z (aq ?_)
 refine ar (Ent.freeze 10 (e':=[(10,_),(6,_),(7,_),(0,_),(3,_),(4,_)]) Z (.cons Z (.c (.box (cs:=Tm.cells (aX t).1) Z (aE Z))) (fe [6,7,0,3,4] Z)) (aZ Z (.skip (bh Z (bh Z (bh Z (aZ Z (aZ Z (aZ Z (aZ Z (bh Z (bh Z (.cons Z .map .nil))))))))))))) ?_
 refine aq ?_
 refine jn (af (ae (az Z (jn (ah Z (fun z22=>?_) (fun z22=>?_))))))
 refine ea ?_
 rw[Do hY hN z22]
 refine⟨.inl Z,_,(aa 501 510 Z Z).trans (aa 502 511 Z Z),_,Z,Z,Z⟩
 refine aj (ae (js Z (au O [504,505,506] (bin:=[aN w.vars,aN w.facts,aO w.ev]) Z Z Z Z (xn (frm:=frm) (w:=w) h1 h2 hv hl he) Z Z Z Z Z Z (B0:=25000) Z Z (aq ?_))))
 refine jl Z (aq ?_)
 refine jo Z (aq ?_)
 refine ba (ab Z (au O [500,501,502,503,11,25003,25004,25005] (bin:=[iB c (g.flag (!(aX t).2)) 1 2 3,aY (g.flag (!(aX t).2)).paths,aW (g.flag (!(aX t).2)).conds,bn c.num,iW frm w 5 6 7,aN w.vars,aN w.facts,aO w.ev]) Z Z Z Z (xo (c:=c) (g:=(g.flag (!(aX t).2))) (frm:=frm) (w:=w) (t:=t) h1 h2 hl) Z Z Z Z Z Z (B0:=28000) Z Z (aq ?_)))
 refine jn (af (ae (az Z (js Z (jn (ah Z (fun z32=>?_) (fun z32=>?_)))))))
 refine ak (ab Z (au O [500,501,502,503,25003,28009,25005,507,508,509] (bin:=[iB c (cS w t g) 1 2 3,aY (cS w t g).paths,aW (cS w t g).conds,bn c.num,aN (w.fact t).vars,aN (w.fact t).facts,aO (w.fact t).ev,pB 0,xB d8,xB d9]) Z Z Z Z (hy (by simpa using z32)) Z Z Z Z Z Z (B0:=36000) Z Z (aq ?_)))
 refine jn (af (ae (az Z (jn (ah Z (fun z39=>?_) (fun z39=>?_))))))
 refine ea ?_
 rw[Dm hN z39]
 refine⟨.inl Z,_,(aa 36010 510 Z Z).trans (aa 36011 511 Z Z),_,Z,Z,Z⟩
 refine aj (ae (js Z (au O [504,505,506] (bin:=[aN w.vars,aN w.facts,aO w.ev]) Z Z Z Z (xn (frm:=frm) (w:=w) h1 h2 hv hl he) Z Z Z Z Z Z (B0:=42000) Z Z (aq ?_))))
 refine jl Z (aq ?_)
 refine jo Z (aq ?_)
 refine ba (ab Z (au O [500,36010,36011,503,12,42003,42004,42005] (bin:=[iB c (Y (w.fact t) (cS w t g)) 1 2 3,aY (Y (w.fact t) (cS w t g)).paths,aW (Y (w.fact t) (cS w t g)).conds,bn c.num,iW frm w 5 6 7,aN w.vars,aN w.facts,aO w.ev]) Z Z Z Z (AI (c:=c) (g:=(Y (w.fact t) (cS w t g))) (frm:=frm) (w:=w) (t:=(aX t).1) h1 h2 hl (Ad hY z39)) Z Z Z Z Z Z (B0:=45000) Z Z (aq ?_)))
 refine ba (az Z (js Z (jn (ah Z (fun z49=>?_) (fun z49=>?_)))))
 refine ak (ab Z (au O [500,36010,36011,503,42003,45009,42005,507,508,509] (bin:=[iB c (Y (w.fact t) (cS w t g)) 1 2 3,aY (Y (w.fact t) (cS w t g)).paths,aW (Y (w.fact t) (cS w t g)).conds,bn c.num,aN (w.fact (aX t).1).vars,aN (w.fact (aX t).1).facts,aO (w.fact (aX t).1).ev,pB 0,xB d8,xB d9]) Z Z Z Z (hn z39) Z Z Z Z Z Z (B0:=53000) Z Z (aq ?_)))
 refine jn ?_
 show _∧_
 refine⟨.inr Z,_,(aa 53010 510 Z Z).trans (aa 53011 511 Z Z),_,Z,Z,Z⟩
 exact absurd (show(!(Y (w.fact t) (cS w t g)).bad)=false from z49) (by rw[show(Y (w.fact t) (cS w t g)).bad=false from z39];decide)
 refine aj (af (ae (az Z (jn (ah Z (fun z39=>?_) (fun z39=>?_))))))
 refine ea ?_
 rw[Dn hY hN z39]
 refine⟨.inl Z,_,(aa 501 510 Z Z).trans (aa 502 511 Z Z),_,Z,Z,Z⟩
 exact absurd (show(!(cS w t g).bad)=false from z32) (by rw[show(cS w t g).bad=false from z39];decide)
theorem FG{t:Tm}{d9:D}{fy fn:Nat}{Y N:Pw→Gs→Gs}(hY:pq Y)(hN:pq N)(ht:t.ok=true)(hv:w.vars.length≤1000)(hl:w.facts.length≤1000)(he:w.ev.length≤1000)
  (hy:(cS w t g).bad=false→MQ h1 h2 fy [wA frm (w.fact t) 4 5 6,.c (.pt 7 0 0),.c (.pt 8 0 0),.c (.pt 9 0 0)] (iT c (cS w t g) (w.fact t) d8 d9) (bb (.tup []) (oT c (Y (w.fact t) (cS w t g)) d8 d9))) (hn:(Y (w.fact t) (cS w t g)).bad=false→MQ h1 h2 fn [wA frm (w.fact (aX t).1) 4 5 6,.c (.pt 7 0 0),.c (.pt 9 0 0)] (iT c (Y (w.fact t) (cS w t g)) (w.fact (aX t).1) d8 d9) (bb (.tup []) (oT c (N (w.fact (aX t).1) (Y (w.fact t) (cS w t g))) d8 d9))) :
  MQ h1 h2 73 [.c (.pt 0 0 0),wA frm w 4 5 6,db t,.c (.fn fy [.pt 7 0 0,.pt 8 0 0,.pt 9 0 0]),.c (.fn fn [.pt 7 0 0,.pt 9 0 0])] (iT c g w d8 d9) (bb (.tup []) (oT c (dT Y N w t g) d8 d9)):=by
 refine MC.shift 500 Z (MC.keep [500,503,507,508,509,510,511] (bs:=[iB c (dT Y N w t g) 510 511 503,bn c.num,pB 500,xB d8,xB d9,aY (dT Y N w t g).paths,aW (dT Y N w t g).conds]) Z Z (jH 53 [500,501,502,503,504,505,506,507,508,509] h1 h2 Tryz.func73 Z fun O hF=>?_))
 refine b0 ?_
 refine ae (jx Z (aq ?_))
 refine jx Z (aq ?_)
 refine ar (Ent.freeze 7 (e':=[(7,_),(6,_),(0,_),(3,_),(4,_)]) Z (.cons Z (.c (.box (cs:=Tm.cells t) Z (aE Z))) (fe [6,0,3,4] Z)) (aZ Z (.skip (aZ Z (bh Z (bh Z (.cons Z .map (bh Z (bh Z (bh Z (aZ Z (aZ Z (aZ Z .nil))))))))))))) ?_
 refine aq ?_
 refine ba (ab Z (an O Z Z Z Z (DO (t:=t) h1 h2 ht) (ac Z) Z Z Z Z (B0:=16000) Z Z (ab Z (au O [500,501,502,503] (bin:=[iB c g 1 2 3,aY g.paths,aW g.conds,bn c.num]) Z Z Z Z (AH (c:=c) (g:=g) (t:=(aX t).1) (ok:=(aX t).2) h1 h2) Z Z Z Z Z Z (B0:=19000) Z Z (aq ?_)))))
 refine jl Z (aq ?_)
 refine jo Z (aq ?_)
 refine ar (Ent.freeze 10 (e':=[(10,_),(6,_),(7,_),(0,_),(3,_),(4,_)]) Z (.cons Z (.c (.box (cs:=Tm.cells (aX t).1) Z (aE Z))) (fe [6,7,0,3,4] Z)) (aZ Z (.skip (bh Z (bh Z (bh Z (aZ Z (aZ Z (aZ Z (aZ Z (bh Z (bh Z (.cons Z .map .nil))))))))))))) ?_
 refine aq ?_
 refine jn (af (ae (az Z (jn (ah Z (fun z22=>?_) (fun z22=>?_))))))
 refine ea ?_
 rw[Do hY hN z22]
 refine⟨.inl Z,_,(aa 501 510 Z Z).trans (aa 502 511 Z Z),_,Z,Z,Z⟩
 refine aj (ae (js Z (au O [504,505,506] (bin:=[aN w.vars,aN w.facts,aO w.ev]) Z Z Z Z (xn (frm:=frm) (w:=w) h1 h2 hv hl he) Z Z Z Z Z Z (B0:=25000) Z Z (aq ?_))))
 refine jl Z (aq ?_)
 refine jo Z (aq ?_)
 refine ba (ab Z (au O [500,501,502,503,11,25003,25004,25005] (bin:=[iB c (g.flag (!(aX t).2)) 1 2 3,aY (g.flag (!(aX t).2)).paths,aW (g.flag (!(aX t).2)).conds,bn c.num,iW frm w 5 6 7,aN w.vars,aN w.facts,aO w.ev]) Z Z Z Z (xo (c:=c) (g:=(g.flag (!(aX t).2))) (frm:=frm) (w:=w) (t:=t) h1 h2 hl) Z Z Z Z Z Z (B0:=28000) Z Z (aq ?_)))
 refine jn (af (ae (az Z (js Z (jn (ah Z (fun z32=>?_) (fun z32=>?_)))))))
 refine ak (ab Z (au O [500,501,502,503,25003,28009,25005,507,508,509] (bin:=[iB c (cS w t g) 1 2 3,aY (cS w t g).paths,aW (cS w t g).conds,bn c.num,aN (w.fact t).vars,aN (w.fact t).facts,aO (w.fact t).ev,pB 0,xB d8,xB d9]) Z Z Z Z (hy (by simpa using z32)) Z Z Z Z Z Z (B0:=36000) Z Z (aq ?_)))
 refine jn (af (ae (az Z (jn (ah Z (fun z39=>?_) (fun z39=>?_))))))
 refine ea ?_
 rw[Dm hN z39]
 refine⟨.inl Z,_,(aa 36010 510 Z Z).trans (aa 36011 511 Z Z),_,Z,Z,Z⟩
 refine aj (ae (js Z (au O [504,505,506] (bin:=[aN w.vars,aN w.facts,aO w.ev]) Z Z Z Z (xn (frm:=frm) (w:=w) h1 h2 hv hl he) Z Z Z Z Z Z (B0:=42000) Z Z (aq ?_))))
 refine jl Z (aq ?_)
 refine jo Z (aq ?_)
 refine ba (ab Z (au O [500,36010,36011,503,12,42003,42004,42005] (bin:=[iB c (Y (w.fact t) (cS w t g)) 1 2 3,aY (Y (w.fact t) (cS w t g)).paths,aW (Y (w.fact t) (cS w t g)).conds,bn c.num,iW frm w 5 6 7,aN w.vars,aN w.facts,aO w.ev]) Z Z Z Z (AI (c:=c) (g:=(Y (w.fact t) (cS w t g))) (frm:=frm) (w:=w) (t:=(aX t).1) h1 h2 hl (Ad hY z39)) Z Z Z Z Z Z (B0:=45000) Z Z (aq ?_)))
 refine ba (az Z (js Z (jn (ah Z (fun z49=>?_) (fun z49=>?_)))))
 refine ak (ab Z (au O [500,36010,36011,503,42003,45009,42005,507,508,509] (bin:=[iB c (Y (w.fact t) (cS w t g)) 1 2 3,aY (Y (w.fact t) (cS w t g)).paths,aW (Y (w.fact t) (cS w t g)).conds,bn c.num,aN (w.fact (aX t).1).vars,aN (w.fact (aX t).1).facts,aO (w.fact (aX t).1).ev,pB 0,xB d8,xB d9]) Z Z Z Z (hn z39) Z Z Z Z Z Z (B0:=53000) Z Z (aq ?_)))
 refine jn ?_
 show _∧_
 refine⟨.inr Z,_,(aa 53010 510 Z Z).trans (aa 53011 511 Z Z),_,Z,Z,Z⟩
 exact absurd (show(!(Y (w.fact t) (cS w t g)).bad)=false from z49) (by rw[show(Y (w.fact t) (cS w t g)).bad=false from z39];decide)
 refine aj (af (ae (az Z (jn (ah Z (fun z39=>?_) (fun z39=>?_))))))
 refine ea ?_
 rw[Dn hY hN z39]
 refine⟨.inl Z,_,(aa 501 510 Z Z).trans (aa 502 511 Z Z),_,Z,Z,Z⟩
 exact absurd (show(!(cS w t g).bad)=false from z32) (by rw[show(cS w t g).bad=false from z39];decide)
def fD:List Fr→D
  | []=>.nilp
  | .st t::r=>.ptr [t.d,.int .i64 0,fD r] 0
  | .lp k::_=>.ptr [.nilp,.int .i64 (k:Nat),.nilp] 0
abbrev iF(c:Pc)(g:Gs)(w:Pw):List (Nat×B):=[(0,iB c g 1 2 3),(1,aY g.paths),(2,aW g.conds),(3,bn c.num),(4,aN w.vars),(5,aN w.facts),(6,aO w.ev)]
abbrev oF(c:Pc)(g:Gs):List (Nat×B):=[(0,iB c g 10 11 3),(3,bn c.num),(10,aY g.paths),(11,aW g.conds)]
abbrev BW(a b c:D):B:=.box [.d a,.d b,.d c]
abbrev pr(L:Nat)(c:Pc)(frm:Int)(w:Pw)(g:Gs)(d:D)(g':Gs):Prop:=MC Tryz.prog L 72 [.c (.pt 0 0 0),wA frm w 4 5 6,.c (.d d)] (iF c g w) (bb (.tup []) (oF c g'))
theorem xi{L:Nat}{c:Pc}{frm:Int}{w:Pw}{g g':Gs}{d1 d2 d3:D}(h:pr L c frm w g (.ptr [d1,d2,d3] 0) g'):MC Tryz.prog L 72 [.c (.pt 0 0 0),wA frm w 4 5 6,.c (.pt 7 0 0)] (iF c g w++[(7,BW d1 d2 d3)]) (bb (.tup []) (oF c g')):=
  MC.freeze 7 Z (.cons (.keep Z) (.cons (.keep Z) (.cons (.c (.box Z (aE Z))) .nil))) (.cons Z (.box (.cons (.keep Z) (.cons (.keep Z) (.cons (.keep Z) (.cons (.keep Z) (.cons (.keep Z) (.cons (.keep Z) (.cons (.keep Z) (.cons (.keep Z) (.cons (.keep Z) .nil)))))))))) (bh Z (bh Z (.cons Z .map (bh Z (bh Z (bh Z (.skip .nil)))))))) Z h
theorem ES{L:Nat}{c:Pc}{frm:Int}{w:Pw}{g g':Gs}{d1 d2 e1 e2 e3:D}(h:pr L c frm w g (.ptr [d1,d2,.ptr [e1,e2,e3] 0] 0) g'):MC Tryz.prog L 72 [.c (.pt 0 0 0),wA frm w 4 5 6,.c (.pt 7 0 0)] (iF c g w++[(7,.box [.d d1,.d d2,.pt 8 0 0]),(8,BW e1 e2 e3)]) (bb (.tup []) (oF c g')):=
  MC.freeze 8 Z (.cons (.keep Z) (.cons (.keep Z) (.cons (.keep Z) .nil))) (.cons Z (.box (.cons (.keep Z) (.cons (.keep Z) (.cons (.keep Z) (.cons (.keep Z) (.cons (.keep Z) (.cons (.keep Z) (.cons (.keep Z) (.cons (.keep Z) (.cons (.keep Z) .nil)))))))))) (bh Z (bh Z (.cons Z .map (bh Z (bh Z (bh Z (.cons Z (.box (.cons (.keep Z) (.cons (.keep Z) (.cons (.box Z (aE Z)) .nil)))) (.skip .nil))))))))) Z (xi h)
variable{g':Gs}{a:Int}{r:List Fr}
theorem Iu(ih:pr L c frm w g (fD (.st x::r)) g'):MQ h1 h2 117 [wA frm w 4 5 6,.c (.pt 7 0 0),.c (.pt 8 0 0),.c (.pt 9 0 0)] (iT c g w (Tr.d (.node s a [x,y])) (fD r)) (bb (.tup []) (oT c g' (Tr.d (.node s a [x,y])) (fD r))):=by
 refine MC.shift 500 Z (MC.keep [500,503,507,508,509,510,511] (bs:=[iB c g' 510 511 503,bn c.num,pB 500,xB (Tr.d (.node s a [x,y])),xB (fD r),aY g'.paths,aW g'.conds]) Z Z (jH 17 [500,501,502,503,504,505,506,507,508,509] h1 h2 Tryz.func117 Z fun O hF=>?_))
 refine b0 ?_
 refine ae (jx Z (aq ?_))
 refine jn (kJ [_,_,_,_,_,_,_,_,_,_,_,_] [pn [] 0 1,pn [] 0 1,aF,ag [2],ag [2,3],ag [2,3,4],ag (rg 2 4),ag (rg 2 5),aF,ag (rg 2 7),pe (rg 2 8) 0,pe (rg 0 11) 1] [10,11] [_,_,_] [[],[501,502,504,505,506,15]] (ai (ka Z Z (kw Z Z)) (ai (ka Z Z (kw Z Z)) (ka Z Z (ka Z Z (ka Z Z (ka Z Z (ai (ai (bN O Z Z Z Z Z Z Z Z (by simp[Trs.d]) Z) Z) (ka Z Z (ka Z Z (ka Z Z (ai (ai (aI (Eff.box O Z Z Z Z Z Z Z Z)) Z) (ai (ai (cF O [500,501,502,503,504,505,506,15] [501,502,504,505,506,15] (bin:=[iB c g 1 2 3,aY g.paths,aW g.conds,bn c.num,aN w.vars,aN w.facts,aO w.ev,BW (Tr.d x) (.int .i64 0) (fD r)]) Z Z Z Z (xi ih) Z Z Z Z Z (B0:=17000) Z Z Z Z Z Z Z) Z) trivial)))))))))))) ?_)
 show _∧_
 refine GN ?_
 refine⟨.inr Z,_,(aa 17010 510 Z Z).trans (aa 17011 511 Z Z),_,Z,Z,Z⟩
theorem It(ih:pr L c frm w g (fD (.st y::r)) g'):MQ h1 h2 118 [wA frm w 4 5 6,.c (.pt 7 0 0),.c (.pt 8 0 0),.c (.pt 9 0 0)] (iT c g w (Tr.d (.node s a [x,y])) (fD r)) (bb (.tup []) (oT c g' (Tr.d (.node s a [x,y])) (fD r))):=by
 refine MC.shift 500 Z (MC.keep [500,503,507,508,509,510,511] (bs:=[iB c g' 510 511 503,bn c.num,pB 500,xB (Tr.d (.node s a [x,y])),xB (fD r),aY g'.paths,aW g'.conds]) Z Z (jH 17 [500,501,502,503,504,505,506,507,508,509] h1 h2 Tryz.func118 Z fun O hF=>?_))
 refine b0 ?_
 refine ae (jx Z (aq ?_))
 refine jn (kJ [_,_,_,_,_,_,_,_,_,_,_,_] [pn [] 0 1,pn [] 0 1,aF,ag [2],ag [2,3],ag [2,3,4],ag (rg 2 4),ag (rg 2 5),aF,ag (rg 2 7),pe (rg 2 8) 0,pe (rg 0 11) 1] [10,11] [_,_,_] [[],[501,502,504,505,506,15]] (ai (ka Z Z (kw Z Z)) (ai (ka Z Z (kw Z Z)) (ka Z Z (ka Z Z (ka Z Z (ka Z Z (ai (ai (bN O Z Z Z Z Z Z Z Z (by simp[Trs.d]) Z) Z) (ka Z Z (ka Z Z (ka Z Z (ai (ai (aI (Eff.box O Z Z Z Z Z Z Z Z)) Z) (ai (ai (cF O [500,501,502,503,504,505,506,15] [501,502,504,505,506,15] (bin:=[iB c g 1 2 3,aY g.paths,aW g.conds,bn c.num,aN w.vars,aN w.facts,aO w.ev,BW (Tr.d y) (.int .i64 0) (fD r)]) Z Z Z Z (xi ih) Z Z Z Z Z (B0:=17000) Z Z Z Z Z Z Z) Z) trivial)))))))))))) ?_)
 show _∧_
 refine GN ?_
 refine⟨.inr Z,_,(aa 17010 510 Z Z).trans (aa 17011 511 Z Z),_,Z,Z,Z⟩
set_option maxHeartbeats 8000000
theorem GT:(Tryz.prog).underlying 72=some (.map 2 2):=by kernel_rfl
theorem uK:(Tryz.prog).underlying 2=some (.int .i64):=by kernel_rfl
theorem zK:((Tryz.prog).info? 2).bind (·.zero)=some (D.val (.int .i64 0)):=by kernel_rfl
abbrev ch(E:Pe)(SS:List (List Tm))(bd lo be:D)(nm:List (Int×D)):Pc:=⟨fC E.post,.slc 1 (SS.map fun f=>[fC f]),bd,lo,be,nm⟩
structure PcOk(E:Pe)(b:List Sm)(SS:List (List Tm))(nm:List (Int×D)):Prop where
  starts: ∀k,k<b.length→(b.getD k default).kind=8→br b k+1<SS.length∧SS.getD (br b k+1) default=(b.getD k default).facts
  num: ∀k:Nat,k<b.length→(b.getD k default).kind=8→mR nm (k:Nat)=some (.int .i64 (br b k:Nat))
structure FX where
  n:Nat
  r:List Fr
  w:Pw
  g:Gs
  c:Nat
structure FI(E:Pe)(b:List Sm)(frm:Int)(N L:Nat)(G:Gs)(x:FX):Prop where
  pl: ∃fl i,Pl b fl i x.r
  lt:aP x.r<x.n
  le:x.n≤N
  w:WOk x.n x.w
  g:GOk x.c x.g
  bd:x.c+rD (aP x.r)≤L
  eq:fi bT E frm x.n x.r x.w x.g=G
def Dg(w:Pw):Tm:=if w.sym=10 then⟨0,[]⟩else iV w.sym
abbrev I4(w:Pw):Pw:=⟨w.vars,w.facts,w.ev,min (w.sym+1) 10⟩
abbrev BU(w:Pw)(g:Gs):Gs:=g.flag (decide (w.sym=10))
theorem FE{L:Nat}(h1:4096≤L)(h2:L≤1073741824){c:Pc}{g:Gs}{frm:Int}{w:Pw}(hs:w.sym≤10):MC Tryz.prog L 114 [.c (.pt 0 0 0),.c (.pt 4 0 0)] (iH c g frm w) (bb (db (Dg w)) (iH c (BU w g) frm (I4 w))):=by
 by_cases h:w.sym=10
 have e:I4 w=w:=by obtain⟨a,b,c,d⟩:=w;simp only at h;subst h;rfl
 rw[Dg,if_pos h,e,BU,decide_eq_true h,l8]
 exact BO (fun h=>RA.zero h) (FF h1 h2 h)
 have e:min (w.sym+1) 10=w.sym+1:=by omega
 rw[Dg,if_neg h,I4,e,BU,decide_eq_false h,iL]
 exact Iv h1 h2 (by omega)
theorem EQ{la:dM}{s:Sm}{w:Pw}{g:Gs}(h:s.kind=2):cd la s w g=(w.set s.var.toNat (aR s.sum w.vars).1,bk w s.sum g):=if_pos h
theorem EP{la:dM}{s:Sm}{w:Pw}{g:Gs}(h:s.kind=3)(hs:w.sym≤10):cd la s w g=(⟨w.vars.set s.var.toNat (Dg w),w.facts,w.ev,min (w.sym+1) 10⟩,BU w (cy la w s.index g)):=by
 rw[cd,if_neg (by omega),if_pos h]
 by_cases h0:w.sym=10
 rw[if_pos h0,Dg,if_pos h0,BU,decide_eq_true h0]
 obtain⟨a,b,c,d⟩:=w;simp only at h0;subst h0;rfl
 rw[if_neg h0,Dg,if_neg h0,BU,decide_eq_false h0,iL,n4,show min (w.sym+1) 10=w.sym+1 by omega]
theorem EO{la:dM}{s:Sm}{w:Pw}{g:Gs}(h:s.kind=4):cd la s w g=(w,cy la w s.index g):=by
 rw[cd,if_neg (by omega),if_neg (by omega),if_pos h]
theorem EN{la:dM}{s:Sm}{w:Pw}{g:Gs}(h:s.kind=5):cd la s w g=(⟨w.vars,w.facts,w.ev++[s.event],w.sym⟩,g):=by
 rw[cd,if_neg (by omega),if_neg (by omega),if_neg (by omega),if_pos h]
theorem EM{la:dM}{s:Sm}{w:Pw}{g:Gs}(h:s.kind=6):cd la s w g=(w.fact (aR s.sum w.vars).1,(eA w (aR s.sum w.vars).1 (bk w s.sum g)).flag (w.fact (aR s.sum w.vars).1).long):=by
 rw[cd,if_neg (by omega),if_neg (by omega),if_neg (by omega),if_neg (by omega),if_pos h,eA,fo,show(!true)=false from Z,iL]
theorem ER{la:dM}{s:Sm}{w:Pw}{g:Gs}(h2: ¬s.kind=2)(h3: ¬s.kind=3)(h4: ¬s.kind=4)(h5: ¬s.kind=5)(h6: ¬s.kind=6):cd la s w g=(w,g):=by
 rw[cd,if_neg h2,if_neg h3,if_neg h4,if_neg h5,if_neg h6]
theorem FK{L:Nat}(h1:4096≤L)(h2:L≤1073741824){E:Pe}{b:List Sm}{SS:List (List Tm)}{bd lo be:D}{nm:List (Int×D)}{frm:Int}{w0:Pw}{g0 G:Gs}{r0:List Fr}{N c0:Nat}(hE:EOk E b)(hbl:b.length≤1000)(hP:PcOk E b SS nm)
  (ih: ∀n,n<N→∀{r:List Fr} {w:Pw} {g:Gs} {c:Nat},(∃fl i,Pl b fl i r)→aP r<n→WOk n w→GOk c g→c+rD (aP r)≤L→pr L (ch E SS bd lo be nm) frm w g (fD r) (fi bT E frm n r w g))
  (hi0:FI E b frm N L G ⟨N,r0,w0,g0,c0⟩):pr L (ch E SS bd lo be nm) frm w0 g0 (fD r0) G:=by
 refine MC.shift 500 Z (MC.keep [500,503,510,511] (bs:=[iB (ch E SS bd lo be nm) G 510 511 503,bn nm,aY G.paths,aW G.conds]) Z Z (jH 218 [500,501,502,503,504,505,506] h1 h2 Tryz.func72 Z fun O hF=>?_))
 refine b0 ?_
 refine ae (jx Z (aq ?_))
 refine jx Z (aq ?_)
 refine jn (ao (aw (X:=FX) (fun x=>⟨[(2,.c (.d (fD x.r))),(3,.c (.pt 3 0 0)),(4,.c (.pt 4 0 0))],[(3,pB 500),(4,iW frm x.w 904 905 906),(500,iB (ch E SS bd lo be nm) x.g 901 902 503),(503,bn nm),(901,aY x.g.paths),(902,aW x.g.conds),(904,aN x.w.vars),(905,aN x.w.facts),(906,aO x.w.ev)]⟩) (fun x=>FI E b frm N L G x) (fun x=>x.n) ⟨N,r0,w0,g0,c0⟩ (((((((am [3,4,500,503,501,502,504,505,506] (e':=[(2,_),(3,_),(4,_)]) Z Z ⟨Z,Z,Z,ap⟩ Z).trans (aa 501 901 Z Z)).trans (aa 502 902 Z Z)).trans (aa 504 904 Z Z)).trans (aa 505 905 Z Z)).trans (aa 506 906 Z Z)).trans (Ent.to ⟨Z,Z,Z,ap⟩ Z)) ?_ (fun x hi=>?_)))
 exact hi0
 obtain⟨n,r,w,g,cc⟩:=x
 obtain⟨⟨fl,i0,hp⟩,hlt,hle,hw,hg,hbd,hG⟩:=hi
 dsimp only at hp hlt hle hw hg hbd hG
 refine jh (Ent.to (e':=[(2,.c (.d (fD r))),(3,.c (.pt 3 0 0)),(4,.c (.pt 4 0 0))]) (H':=[(3,pB 500),(4,iW frm w 904 905 906),(500,iB (ch E SS bd lo be nm) g 901 902 503),(503,bn nm),(901,aY g.paths),(902,aW g.conds),(904,aN w.vars),(905,aN w.facts),(906,aO w.ev)]) ⟨Z,Z,Z,ap⟩ Z) ?_
 obtain⟨n,rfl⟩: ∃m,n=m+1:=⟨n-1,by omega⟩
 have hge:=wj (m:=aP r)
 have hgc:=hg.conds
 have hgp:=hg.paths
 have hva:=tl hw.ctx hw.vars
 have hv4:=hw.vars
 have hfa:=hw.facts
 have hev:=hw.ev
 have hsy:=hw.sym
 refine af (ae (az Z (ab Z (jn (ah Z (fun z15=>?_) (fun z15=>?_))))))
 refine aj ?_
 cases hp with
 | nil=>
  have hb:g.bad=false:=by simpa using z15
  refine ao (af (ae (ab Z (jn (ah Z (fun z17=>?_) (fun z17=>?_))))))
  refine af (kJ [_,_,_,_,_,_,_,_,_] [aF,ag [0],ag [0,1],aF,ag [3],ag [3,4],ag [3,4,5],ag (rg 3 4),pe (rg 0 8) 0] [8] [_,_] [[901,902]] (ka Z Z (ka Z Z (ka Z Z (ka Z Z (ka Z Z (ka Z Z (ka Z Z (ka Z Z (ai (ai (cF O [500,901,902,503,4,904,905,906] [901,902] (bin:=[iB (ch E SS bd lo be nm) g 1 2 3,aY g.paths,aW g.conds,bn nm,iW frm w 5 6 7,aN w.vars,aN w.facts,aO w.ev]) Z Z Z Z (zX (c:=(ch E SS bd lo be nm)) (g:=g) (frm:=frm) (w:=w) (to:= -1) (fs:=E.post) h1 h2 hw.ctx hw.vars hE.post.1 (by have:=hE.post.2;omega) (by omega)) Z Z Z Z Z (B0:=27000) Z Z Z Z Z Z Z) Z) trivial))))))))) ?_)
  refine jw [17,16,15,2,3,4] Z (b0 ?_)
  refine ea ?_
  rw[←hG,gm hb]
  refine⟨.inl Z,_,(aa 27009 510 Z Z).trans (aa 27008 511 Z Z),_,Z,Z,Z⟩
  cases z17
 | @lp i k r hi hs hk h8=>
  have hb:g.bad=false:=by simpa using z15
  obtain⟨hs1,hs2⟩:=hP.starts _ hk h8
  have hf:=ja (hE.st _ hk)
  have hlf:=hE.lf _ hk h8
  have hnk:=gS (b:=b) (k:=k)
  refine ao (af (ae (ab Z (jn (ah Z (fun z17=>?_) (fun z17=>?_))))))
  cases z17
  refine aj (af (ae (az Z (js Z (jn (ah Z (fun z31=>?_) (fun z31=>?_)))))))
  refine af (kJ [_,_,_,_,_,_,_,_,_,_,_,_,_,_,_,_,_,_,_,_] [aF,ag [0],ag [0,1],aF,ag [3],ag [3,4],ag [3,4,5],aF,ag [7],ag [7,8],ag [7,8,9],ag (rg 7 4),aF,ag [12],ag [12,13],ag [12,13,14],ag (rg 12 4),ag (rg 7 10),ag (rg 7 11),pe (rg 0 19) 0] [19] [_,_] [[901,902]] (ka Z Z (ka Z Z (ka Z Z (ka Z Z (ka Z Z (ka Z Z (ka Z Z (ka Z Z (ka Z Z (ka Z Z (ka Z Z (ka Z Z (ka Z Z (ka Z Z (ka Z Z (ka Z Z (ai (ai ((vF Z).cast (v':=eI ((br b k+1:Nat):Int)) (congrArg eI (by omega))) Z) (ai (ai ((bf O Z Z Z Z Z Z Z Z (dO hs1)).cast (v':=ptr [fC (b.getD k default).facts]) (by rw[hs2])) Z) (ka Z Z (ai (ai (cF O [500,901,902,503,4,904,905,906] [901,902] (bin:=[iB (ch E SS bd lo be nm) g 1 2 3,aY g.paths,aW g.conds,bn nm,iW frm w 5 6 7,aN w.vars,aN w.facts,aO w.ev]) Z Z Z Z (zX (c:=(ch E SS bd lo be nm)) (g:=g) (frm:=frm) (w:=w) (to:=(br b k:Nat)) (fs:=(b.getD k default).facts) h1 h2 hw.ctx hw.vars hf.1 (by have:=hf.2;omega) (by omega)) Z Z Z Z Z (B0:=52000) Z Z Z Z Z Z Z) Z) trivial)))))))))))))))))))) ?_)
  refine jw [31,17,16,15,2,3,4] Z (b0 ?_)
  refine ea ?_
  rw[←hG,jv hb,hlf]
  refine⟨.inl Z,_,(aa 52009 510 Z Z).trans (aa 52008 511 Z Z),_,Z,Z,Z⟩
  cases z31
 | @leaf i k r hi hs hk h0 h=>
  have hb:g.bad=false:=by simpa using z15
  have hst:=hE.st _ hk
  have htm:=lH hst
  have hne:=je h0
  generalize hs0:b.getD k default=s at hst htm hG hlt hbd hge hne ⊢
  have hbl2:=qP (m:=aP r)
  simp only[aP,Fr.nodes,Tr.nodes,Trs.nodes,Nat.add_zero,Nat.add_comm 1]at hlt hbd hge
  rw[fA hb]at hG
  refine ao (af (ae (ab Z (jn (ah Z (fun z17=>?_) (fun z17=>?_))))))
  cases z17
  refine aj (af (ae (az Z (js Z (jn (ah Z (fun z31=>?_) (fun z31=>?_)))))))
  cases z31
  refine aj (af (rC [_,_,_,_,_,_,_,_,_,_,_,_] [pn [] 0 1,pn [0] 0 1,pn [0,1] 0 1,pn [0,1,2] 0 1,pn [] 0 2,pn [4] 0 2,pn [4,5] 0 2,pn [4,5,6] 0 2,pn [] 0 1,pe [] 0,pe [0,1,2,3,8,9] 1,pe [0,1,2,3,4,5,6,7,8,9,10] 2] [9,10,11] 8 6 (.box [.d .nilp]) [_,_] [_,_] [] (ai (kf Z Z Z (kg Z Z Z)) (ai (kf Z Z Z (kg Z Z Z)) (ai (kf Z Z Z (kg Z Z Z)) (ai (kf Z Z Z (kg Z Z Z)) (ai (kf Z Z Z (kf Z Z Z (kg Z Z Z))) (ai (kf Z Z Z (kf Z Z Z (kg Z Z Z))) (ai (kf Z Z Z (kf Z Z Z (kg Z Z Z))) (ai (kf Z Z Z (kf Z Z Z (kg Z Z Z))) (ai (ai (ai (aI (Eff.alloc O Z Z Z Z Z Z)) Z) (ai (aI (Eff.alloc O Z Z Z Z Z Z)) Z)) (ai (ai (aB (aI (Eff.alloc O Z Z Z Z Z Z)) (aI (Eff.alloc O Z Z Z Z Z Z))) Z) (ai (ai (aB trivial (aI (eS Z Z Z))) Z) (ai (ai (aB trivial (aI (eS Z Z Z))) Z) trivial)))))))))))) ?_))
  refine jw [7,6,31,17,16,15,2,3,4] Z (b0 ?_)
  refine af (ae (az Z (js Z (jn ?_))))
  obtain⟨d,ed⟩: ∃d,d=cd bT s w g:=⟨_,rfl⟩
  refine nb ⟨[(3,.c (.pt 3 0 0)),(4,.c (.pt 4 0 0)),(7,.c (.pt 7 0 0))],[(3,pB 500),(7,xB (fD r)),(4,iW frm d.1 904 905 906),(500,iB (ch E SS bd lo be nm) d.2 901 902 503),(503,bn nm),(901,aY d.2.paths),(902,aW d.2.conds),(904,aN d.1.vars),(905,aN d.1.facts),(906,aO d.1.ev)]⟩ ?_ ?_
  refine ao (ae (ab Z (jn (ah Z (fun z65=>?_) (fun z65=>?_)))))
  exact absurd (bK z65) (by omega)
  refine ae (ab Z (jn (ah Z (fun z84=>?_) (fun z84=>?_))))
  have hsv2:=vU hst (.inl (bK z84))
  refine fZ [_,_,_,_,_,_,_,_,_,_,_,_,_,_,_,_,_,_] [pn [] 0 1,pn [0] 0 1,pn [] 0 1,pn [2] 0 1,pn [2,3] 0 1,pn [2,3,4] 0 1,pn (rg 2 4) 0 1,aF,ag [7],ag [7,8],aF,ag [10],ag [10,11],ag [10,11,12],ag (rg 10 4),pe (rg 7 8) 0,pn (rg 0 16) 1 1,pe (rg 0 17) 1] [15,17] [_,[(3,pB 500),(6,xB (Tr.d (.node s (k:Nat) []))),(7,xB (fD r)),(500,iB (ch E SS bd lo be nm) (bk w s.sum g) 901 902 503),(901,aY (bk w s.sum g).paths),(902,aW (bk w s.sum g).conds),(503,bn nm),(4,iW frm w 904 905 906),(904,aN w.vars),(905,aN w.facts),(906,aO w.ev)],_] (ai (kc Z (V Z)) (ai (kc Z (V Z)) (ai (kc Z (V Z)) (ai (kc Z (V Z)) (ai (kc Z (V Z)) (ai (kc Z (V Z)) (ai (kc Z (V Z)) (cw Z (cw Z (ai (ct O [500,901,902,503,4,904,905,906] (bin:=[iB (ch E SS bd lo be nm) g 1 2 3,aY g.paths,aW g.conds,bn nm,iW frm w 5 6 7,aN w.vars,aN w.facts,aO w.ev]) Z Z Z Z (oN (c:=(ch E SS bd lo be nm)) (frm:=frm) (w:=w) (g:=g) (t:=s.sum) h1 h2 htm.1.1 hva (by have:=htm.1.2;omega)) Z Z Z Z Z (B0:=102000) Z Z Z Z Z Z) (ai (vI Z Z) (ai (cR (ex:=Tm.cells (w.vars.getD s.var.toNat default)) (xs':=(w.vars.set s.var.toNat (aR s.sum w.vars).1).map Tm.cells) O Z Z Z Z Z Z Z Z Z Z Z Z Z Z Z (GP (by omega) (by omega)) (GJ (v:=(aR s.sum w.vars).1) (by omega) Z) Z) trivial)))))))))))) ?_
  rw[ed,EQ (bK z84)]
  refine GB ?_
  exact⟨Z,(am [3,7,4,500,503,901,902,904,905,906] (e':=[(3,_),(4,_),(7,_)]) Z Z ⟨Z,Z,Z,ap⟩ Z).trans (Ent.to ⟨Z,Z,Z,ap⟩ (by simp only[Pw.set,iW,List.length_set];rfl))⟩
  refine ae (ab Z (jn (ah Z (fun z103=>?_) (fun z103=>?_))))
  refine af (kJ [_,_,_,_,_,_,_,_,_,_,_,_,_] [pn [] 0 1,pn [0] 0 1,pn [0,1] 0 1,aF,ag [3],ag [3,4],aF,ag [6],ag [6,7],ag [6,7,8],ag (rg 6 4),pe (rg 3 8) 0,pe (rg 0 12) 1] [11,12] [_,[(3,pB 500),(6,xB (Tr.d (.node s (k:Nat) []))),(7,xB (fD r)),(500,iB (ch E SS bd lo be nm) (bk w s.index g) 901 902 503),(901,aY (bk w s.index g).paths),(902,aW (bk w s.index g).conds),(503,bn nm),(4,iW frm w 904 905 906),(904,aN w.vars),(905,aN w.facts),(906,aO w.ev)],[(3,pB 500),(6,xB (Tr.d (.node s (k:Nat) []))),(7,xB (fD r)),(500,iB (ch E SS bd lo be nm) (cy bT w s.index g) 901 118008 503),(901,aY (cy bT w s.index g).paths),(503,bn nm),(4,iW frm w 904 905 906),(904,aN w.vars),(905,aN w.facts),(906,aO w.ev),(118008,aW (cy bT w s.index g).conds)]] [[],[902]] (ai (ka Z Z (kw Z Z)) (ai (ka Z Z (kw Z Z)) (ai (ka Z Z (kw Z Z)) (ka Z Z (ka Z Z (ka Z Z (ka Z Z (ka Z Z (ka Z Z (ka Z Z (ka Z Z (ai (ai (aI (ct O [500,901,902,503,4,904,905,906] (bin:=[iB (ch E SS bd lo be nm) g 1 2 3,aY g.paths,aW g.conds,bn nm,iW frm w 5 6 7,aN w.vars,aN w.facts,aO w.ev]) Z Z Z Z (oN (c:=(ch E SS bd lo be nm)) (frm:=frm) (w:=w) (g:=g) (t:=s.index) h1 h2 htm.2.1 hva (by have:=htm.2.2;omega)) Z Z Z Z Z (B0:=117000) Z Z Z Z Z Z)) Z) (ai (ai (cF O [500,901,902,503,4,904,905,906] [902] (bin:=[iB (ch E SS bd lo be nm) (bk w s.index g) 1 2 3,aY (bk w s.index g).paths,aW (bk w s.index g).conds,bn nm,iW frm w 5 6 7,aN w.vars,aN w.facts,aO w.ev]) Z Z Z Z (DP (c:=(ch E SS bd lo be nm)) (frm:=frm) (w:=w) (g:=(bk w s.index g)) (t:=(aR s.index w.vars).1) h1 h2 fo (show g.conds.length+2≤L by omega)) Z Z Z Z Z (B0:=118000) Z Z Z Z Z Z Z) Z) trivial))))))))))))) ?_)
  refine jw [103,104,84,85,65,66,64,7,6,31,17,16,15,2,3,4] Z (b0 ?_)
  have hsv2:=vU hst (.inr (bK z103))
  refine fZ [_,_,_,_,_,_,_,_,_,_,_,_,_] [pn [] 0 1,pn [0] 0 1,pn [] 0 1,pn [2] 0 1,pn [2,3] 0 1,pn [2,3,4] 0 1,pn (rg 2 4) 0 1,aF,ag [7],ag [7,8],pe [7,8,9] 0,pn (rg 0 11) 1 1,pe (rg 0 12) 1] [10,12] [_,[(3,pB 500),(6,xB (Tr.d (.node s (k:Nat) []))),(7,xB (fD r)),(500,iB (ch E SS bd lo be nm) (BU w (cy bT w s.index g)) 901 118008 503),(901,aY (BU w (cy bT w s.index g)).paths),(118008,aW (BU w (cy bT w s.index g)).conds),(503,bn nm),(4,iW frm (I4 w) 904 905 906),(904,aN w.vars),(905,aN w.facts),(906,aO w.ev)],_] (ai (kc Z (V Z)) (ai (kc Z (V Z)) (ai (kc Z (V Z)) (ai (kc Z (V Z)) (ai (kc Z (V Z)) (ai (kc Z (V Z)) (ai (kc Z (V Z)) (kc Z (kc Z (kc Z (ai (ct O [500,901,118008,503,4,904,905,906] (bin:=[iB (ch E SS bd lo be nm) (cy bT w s.index g) 1 2 3,aY (cy bT w s.index g).paths,aW (cy bT w s.index g).conds,bn nm,iW frm w 5 6 7,aN w.vars,aN w.facts,aO w.ev]) Z Z Z Z (FE (c:=(ch E SS bd lo be nm)) (frm:=frm) (w:=w) (g:=(cy bT w s.index g)) h1 h2 hsy) Z Z Z Z Z (B0:=129000) Z Z Z Z Z Z) (ai (vI Z Z) (ai (cR (ex:=Tm.cells (w.vars.getD s.var.toNat default)) (xs':=(w.vars.set s.var.toNat (Dg w)).map Tm.cells) O Z Z Z Z Z Z Z Z Z Z Z Z Z Z Z (GP (by omega) (by omega)) (GJ (v:=(Dg w)) (by omega) Z) Z) trivial))))))))))))) ?_
  rw[ed,EP (bK z103) hw.sym]
  refine GB ?_
  exact⟨Z,((am [3,7,4,500,503,901,118008,904,905,906] (e':=[(3,_),(4,_),(7,_)]) Z Z ⟨Z,Z,Z,ap⟩ Z).trans (aa 118008 902 Z Z)).trans (Ent.to ⟨Z,Z,Z,ap⟩ (by simp only[Pw.set,iW,List.length_set];rfl))⟩
  refine ae (ab Z (jn (ah Z (fun z130=>?_) (fun z130=>?_))))
  refine kJ [_,_,_,_,_,_,_,_,_,_,_,_,_] [pn [] 0 1,pn [0] 0 1,pn [0,1] 0 1,aF,ag [3],ag [3,4],aF,ag [6],ag [6,7],ag [6,7,8],ag (rg 6 4),pe (rg 3 8) 0,pe (rg 0 12) 1] [11,12] [_,[(3,pB 500),(6,xB (Tr.d (.node s (k:Nat) []))),(7,xB (fD r)),(500,iB (ch E SS bd lo be nm) (bk w s.index g) 901 902 503),(901,aY (bk w s.index g).paths),(902,aW (bk w s.index g).conds),(503,bn nm),(4,iW frm w 904 905 906),(904,aN w.vars),(905,aN w.facts),(906,aO w.ev)],[(3,pB 500),(6,xB (Tr.d (.node s (k:Nat) []))),(7,xB (fD r)),(500,iB (ch E SS bd lo be nm) (cy bT w s.index g) 901 145008 503),(901,aY (cy bT w s.index g).paths),(503,bn nm),(4,iW frm w 904 905 906),(904,aN w.vars),(905,aN w.facts),(906,aO w.ev),(145008,aW (cy bT w s.index g).conds)]] [[],[902]] (ai (ka Z Z (kw Z Z)) (ai (ka Z Z (kw Z Z)) (ai (ka Z Z (kw Z Z)) (ka Z Z (ka Z Z (ka Z Z (ka Z Z (ka Z Z (ka Z Z (ka Z Z (ka Z Z (ai (ai (aI (ct O [500,901,902,503,4,904,905,906] (bin:=[iB (ch E SS bd lo be nm) g 1 2 3,aY g.paths,aW g.conds,bn nm,iW frm w 5 6 7,aN w.vars,aN w.facts,aO w.ev]) Z Z Z Z (oN (c:=(ch E SS bd lo be nm)) (frm:=frm) (w:=w) (g:=g) (t:=s.index) h1 h2 htm.2.1 hva (by have:=htm.2.2;omega)) Z Z Z Z Z (B0:=144000) Z Z Z Z Z Z)) Z) (ai (ai (cF O [500,901,902,503,4,904,905,906] [902] (bin:=[iB (ch E SS bd lo be nm) (bk w s.index g) 1 2 3,aY (bk w s.index g).paths,aW (bk w s.index g).conds,bn nm,iW frm w 5 6 7,aN w.vars,aN w.facts,aO w.ev]) Z Z Z Z (DP (c:=(ch E SS bd lo be nm)) (frm:=frm) (w:=w) (g:=(bk w s.index g)) (t:=(aR s.index w.vars).1) h1 h2 fo (show g.conds.length+2≤L by omega)) Z Z Z Z Z (B0:=145000) Z Z Z Z Z Z Z) Z) trivial))))))))))))) ?_
  rw[ed,EO (bK z130)]
  refine GB ?_
  exact⟨Z,((am [3,7,4,500,503,901,145008,904,905,906] (e':=[(3,_),(4,_),(7,_)]) Z Z ⟨Z,Z,Z,ap⟩ Z).trans (aa 145008 902 Z Z)).trans (Ent.to ⟨Z,Z,Z,ap⟩ Z)⟩
  refine ae (ab Z (jn (ah Z (fun z145=>?_) (fun z145=>?_))))
  refine kJ [_,_,_,_,_,_,_,_,_,_,_] [pn [] 0 1,pn [0] 0 1,aF,ag [2],ag [2,3],ag [2,3,4],ag (rg 2 4),pe (rg 2 5) 0,pe (rg 0 8) 1,pn (rg 0 9) 2 2,pe (rg 0 10) 2] [7,8,10] [_,_,_,_] [[],[906],[]] (ai (ka Z Z (kw Z Z)) (ai (ka Z Z (kw Z Z)) (ka Z Z (ka Z Z (ka Z Z (ka Z Z (ka Z Z (ai (ai (aI (cQ O Z Z Z Z Z Z Z Z Z Z Z Z Z Z)) Z) (ai (ai (cp (own:=true) (xs:=w.ev.map (fun n=>[D.int .i64 n])) (ys:=[[.int .i64 s.event]]) (zs:=(w.ev++[s.event]).map (fun n=>[D.int .i64 n])) (n:=(w.ev++[s.event]).length) O Z Z Z Z Z Z Z Z Z Z Z Z Z Z Z Z (.row Z (bQ _).symm) (.whole Z Z (.inl (by simp[Scal,D.scalar]))) (by simp) Z (by simp;omega) (by simp;omega) (by simp) (by simp) Z) Z) (ka Z Z (ai (ai (aI (eS Z Z Z)) Z) trivial))))))))))) ?_
  rw[ed,EN (bK z145)]
  refine GB ?_
  exact⟨Z,((am [3,7,4,500,503,901,902,904,905,155] (e':=[(3,_),(4,_),(7,_)]) Z Z ⟨Z,Z,Z,ap⟩ Z).trans (aa 155 906 Z Z)).trans (Ent.to ⟨Z,Z,Z,ap⟩ Z)⟩
  refine ae (ab Z (jn (ah Z (fun z157=>?_) (fun z157=>?_))))
  refine af (rC [_,_,_,_,_,_,_,_,_,_,_] [aF,ag [0],ag [0,1],aF,ag [3],ag [3,4],ag [3,4,5],ag [3,4,5,6],pe [0,1,2,3,4,5,6,7] 0,pn [] 0 1,pe [0,1,2,3,4,5,6,7,8,9] 1] [8,10] 9 8 (.box [.d (.int .i64 0),.d .nils]) [_,[(3,pB 500),(6,xB (Tr.d (.node s (k:Nat) []))),(7,xB (fD r)),(500,iB (ch E SS bd lo be nm) (bk w s.sum g) 901 902 503),(901,aY (bk w s.sum g).paths),(902,aW (bk w s.sum g).conds),(503,bn nm),(4,iW frm w 904 905 906),(904,aN w.vars),(905,aN w.facts),(906,aO w.ev)]] [_] [] (kf Z Z Z (kf Z Z Z (kf Z Z Z (kf Z Z Z (kf Z Z Z (kf Z Z Z (kf Z Z Z (kf Z Z Z (ai (ai (aB (aI (ct O [500,901,902,503,4,904,905,906] (bin:=[iB (ch E SS bd lo be nm) g 1 2 3,aY g.paths,aW g.conds,bn nm,iW frm w 5 6 7,aN w.vars,aN w.facts,aO w.ev]) Z Z Z Z (oN (c:=(ch E SS bd lo be nm)) (frm:=frm) (w:=w) (g:=g) (t:=s.sum) h1 h2 htm.1.1 hva (by have:=htm.1.2;omega)) Z Z Z Z Z (B0:=168000) Z Z Z Z Z Z)) (aI (ct O [500,901,902,503,4,904,905,906] (bin:=[iB (ch E SS bd lo be nm) g 1 2 3,aY g.paths,aW g.conds,bn nm,iW frm w 5 6 7,aN w.vars,aN w.facts,aO w.ev]) Z Z Z Z (oN (c:=(ch E SS bd lo be nm)) (frm:=frm) (w:=w) (g:=g) (t:=s.sum) h1 h2 htm.1.1 hva (by have:=htm.1.2;omega)) Z Z Z Z Z (B0:=168000) Z Z Z Z Z Z))) Z) (ai (ai (ai (aI (Eff.alloc O Z Z Z Z Z Z)) Z) (ai (aI (Eff.alloc O Z Z Z Z Z Z)) Z)) (ai (ai (aB trivial (aI (eS Z Z Z))) Z) trivial))))))))))) ?_)
  refine jw [8,157,158,145,146,130,131,103,104,84,85,65,66,64,7,6,31,17,16,15,2,3,4] Z (b0 ?_)
  refine af (kJ [_,_,_,_,_] [aF,ag [0],ag [0,1],aF,pe (rg 0 4) 0] [4] [_,_] [[902]] (ka Z Z (ka Z Z (ka Z Z (ka Z Z (ai (ai (cF O [500,901,902,503,4,904,905,906] [902] (bin:=[iB (ch E SS bd lo be nm) (bk w s.sum g) 1 2 3,aY (bk w s.sum g).paths,aW (bk w s.sum g).conds,bn nm,iW frm w 5 6 7,aN w.vars,aN w.facts,aO w.ev]) Z Z Z Z (xp (c:=(ch E SS bd lo be nm)) (frm:=frm) (w:=w) (g:=(bk w s.sum g)) (t:=(aR s.sum w.vars).1) h1 h2 (show g.conds.length+1≤L by omega)) Z Z Z Z Z (B0:=173000) Z Z Z Z Z Z Z) Z) trivial))))) ?_)
  refine jw [8,157,158,145,146,130,131,103,104,84,85,65,66,64,7,6,31,17,16,15,2,3,4] Z (b0 ?_)
  refine kJ [_,_,_,_,_] [aF,ag [0],ag [0,1],aF,pe (rg 0 4) 0] [4] [_,_] [[905]] (ka Z Z (ka Z Z (ka Z Z (ka Z Z (ai (ai (cF O [500,901,173008,503,4,904,905,906] [905] (bin:=[iB (ch E SS bd lo be nm) (eA w (aR s.sum w.vars).1 (bk w s.sum g)) 1 2 3,aY (eA w (aR s.sum w.vars).1 (bk w s.sum g)).paths,aW (eA w (aR s.sum w.vars).1 (bk w s.sum g)).conds,bn nm,iW frm w 5 6 7,aN w.vars,aN w.facts,aO w.ev]) Z Z Z Z (xo (c:=(ch E SS bd lo be nm)) (frm:=frm) (w:=w) (g:=eA w (aR s.sum w.vars).1 (bk w s.sum g)) (t:=(aR s.sum w.vars).1) h1 h2 (by omega)) Z Z Z Z Z (B0:=178000) Z Z Z Z Z Z Z) Z) trivial))))) ?_
  rw[ed,EM (bK z157)]
  refine GB ?_
  exact⟨Z,(((am [3,7,4,500,503,901,173008,904,178009,906] (e':=[(3,_),(4,_),(7,_)]) Z Z ⟨Z,Z,Z,ap⟩ Z).trans (aa 173008 902 Z Z)).trans (aa 178009 905 Z Z)).trans (Ent.to ⟨Z,Z,Z,ap⟩ Z)⟩
  refine ae (ab Z (jn (ah Z (fun z178=>?_) (fun z178=>?_))))
  exact absurd (bK z178) (by omega)
  refine ae (ab Z (jn (ah Z (fun z196=>?_) (fun z196=>?_))))
  exact absurd (bK z196) (by omega)
  refine aj ?_
  rw[ed,ER (cu z84) (cu z103) (cu z130) (cu z145) (cu z157)]
  refine GB ?_
  exact⟨Z,(am [3,7,4,500,503,901,902,904,905,906] (e':=[(3,_),(4,_),(7,_)]) Z Z ⟨Z,Z,Z,ap⟩ Z).trans (Ent.to ⟨Z,Z,Z,ap⟩ Z)⟩
  refine ak (ab Z (jn ?_))
  exact⟨⟨n,r,d.1,d.2,cc+2⟩,((am [3,4,500,503,901,902,904,905,906] (e':=[(2,_),(3,_),(4,_)]) Z Z ⟨Z,Z,Z,ap⟩ Z)).trans (Ent.to ⟨Z,Z,Z,ap⟩ Z),⟨⟨fl,_,h⟩,by show aP r<n;omega,by show n≤N;omega,ed ▸ hw.leaf,ed ▸ tC hg,by show cc+2+rD (aP r)≤L;omega,ed ▸ hG⟩,Nat.lt_succ_self n⟩
 | @seq i k x y r hk1 h=>
  have hb:g.bad=false:=by simpa using z15
  generalize hs0:b.getD k default=s at hk1 hG hlt hbd hge ⊢
  rw[gl hb hk1]at hG
  refine ao (af (ae (ab Z (jn (ah Z (fun z17=>?_) (fun z17=>?_))))))
  cases z17
  refine aj (af (ae (az Z (js Z (jn (ah Z (fun z31=>?_) (fun z31=>?_)))))))
  cases z31
  refine aj (af (rC [_,_,_,_,_,_,_,_,_,_,_,_] [pn [] 0 1,pn [0] 0 1,pn [0,1] 0 1,pn [0,1,2] 0 1,pn [] 0 2,pn [4] 0 2,pn [4,5] 0 2,pn [4,5,6] 0 2,pn [] 0 1,pe [] 0,pe [0,1,2,3,8,9] 1,pe [0,1,2,3,4,5,6,7,8,9,10] 2] [9,10,11] 8 6 (.box [.d .nilp]) [_,_] [_,_] [] (ai (kf Z Z Z (kg Z Z Z)) (ai (kf Z Z Z (kg Z Z Z)) (ai (kf Z Z Z (kg Z Z Z)) (ai (kf Z Z Z (kg Z Z Z)) (ai (kf Z Z Z (kf Z Z Z (kg Z Z Z))) (ai (kf Z Z Z (kf Z Z Z (kg Z Z Z))) (ai (kf Z Z Z (kf Z Z Z (kg Z Z Z))) (ai (kf Z Z Z (kf Z Z Z (kg Z Z Z))) (ai (ai (ai (aI (Eff.alloc O Z Z Z Z Z Z)) Z) (ai (aI (Eff.alloc O Z Z Z Z Z Z)) Z)) (ai (ai (aB (aI (Eff.alloc O Z Z Z Z Z Z)) (aI (Eff.alloc O Z Z Z Z Z Z))) Z) (ai (ai (aB trivial (aI (eS Z Z Z))) Z) (ai (ai (aB trivial (aI (eS Z Z Z))) Z) trivial)))))))))))) ?_))
  refine jw [7,6,31,17,16,15,2,3,4] Z (b0 ?_)
  refine af (ae (az Z (js Z (jn (ao (ae (ab Z (jn (ah Z (fun z65=>?_) (fun z65=>?_))))))))))
  refine fZ [_,_,_,_,_,_,_,_,_,_,_,_,_,_,_,_,_,_] [pn [] 0 1,pn [0] 0 1,pn [0,1] 0 1,pn [0,1,2] 0 1,pn (rg 0 4) 0 1,pn (rg 0 5) 0 1,aF,ag [6],ag [6,7],ag [6,7,8],ag (rg 6 4),ag (rg 6 5),aF,ag (rg 6 7),pe (rg 6 8) 0,pn (rg 0 15) 1 1,pe (rg 0 16) 1,pe (rg 0 17) 2] [14,16,17] [_,_,_,_] (ai (kc Z (V Z)) (ai (kc Z (V Z)) (ai (kc Z (V Z)) (ai (kc Z (V Z)) (ai (ai (bN O Z Z Z Z Z Z Z Z (by simp[Trs.d]) Z) (bN O Z Z Z Z Z Z Z Z (by simp[Trs.d]) Z)) (ai (kc Z (V Z)) (cw Z (ai (bN O Z Z Z Z Z Z Z Z (by simp[Trs.d]) Z) (kc Z (kc Z (kc Z (ai (Eff.box O Z Z Z Z Z Z Z Z) (kc Z (ai (Eff.box O Z Z Z Z Z Z Z Z) (ai (eS Z Z Z) trivial))))))))))))))) ?_
  refine jw [65,66,64,7,6,31,17,16,15,2,3,4] Z (b0 ?_)
  refine ak (ar (Ent.freeze 81 (e':=[(2,_),(3,_),(4,_),(7,_)]) Z (fe [2,3,4,7] Z) (aZ Z (aZ Z (aZ Z (aZ Z (.skip (.cons Z (.box (dw Z (dw Z (.cons (.box (cs:=[y.d,.int .i64 0,fD r]) Z (aE Z)) .nil)))) (aZ Z (.cons Z .map (bh Z (bh Z (bh Z (bh Z (bh Z .nil)))))))))))))) ?_)
  refine ar (Ent.freeze 83 (e':=[(2,_),(3,_),(4,_),(7,_)]) Z (fe [2,3,4,7] Z) (aZ Z (aZ Z (aZ Z (.cons Z (.box (.cons (.box (cs:=[x.d,.int .i64 0,.ptr [y.d,.int .i64 0,fD r] 0]) Z (aE Z)) .nil)) (.skip (aZ Z (.cons Z .map (bh Z (bh Z (bh Z (bh Z (bh Z .nil))))))))))))) ?_
  refine ab Z (jn ?_)
  exact⟨⟨n,.st x:: .st y::r,w,g,cc⟩,((am [3,4,500,503,901,902,904,905,906] (e':=[(2,_),(3,_),(4,_)]) Z Z ⟨Z,Z,Z,ap⟩ Z)).trans (Ent.to ⟨Z,Z,Z,ap⟩ Z),⟨⟨fl,_,h⟩,by simp only[aP,Fr.nodes,Tr.nodes,Trs.nodes]at hlt ⊢;omega,by show n≤N;omega,hw.le (Nat.le_succ n),hg,Nat.le_trans (Nat.add_le_add_left (cP (by simp only[aP,Fr.nodes,Tr.nodes,Trs.nodes];omega)) cc) hbd,hG⟩,Nat.lt_succ_self n⟩
  exact absurd (cu z65) (by omega)
 | @cond i k x y r hi hs hk h7 p1 p2=>
  have hb:g.bad=false:=by simpa using z15
  have hst:=hE.st _ hk
  have htm:=lH hst
  have hx0:=fh (t:=x)
  have hy0:=fh (t:=y)
  generalize hs0:b.getD k default=s at hst htm h7 hG hlt hbd hge ⊢
  rw[jy hb (by omega)]at hG
  have e0:aP (.st (.node s (k:Nat) [x,y])::r)=1+(x.nodes+y.nodes)+aP r:=by simp only[aP,Fr.nodes,Tr.nodes,Trs.nodes];omega
  have ex:aP (.st x::r)=x.nodes+aP r:=rfl
  have ey:aP (.st y::r)=y.nodes+aP r:=rfl
  rw[e0]at hlt hbd
  have e:=tL (m:=1+(x.nodes+y.nodes)+aP r-2)
  rw[show 1+(x.nodes+y.nodes)+aP r-2+2=1+(x.nodes+y.nodes)+aP r by omega]at e
  have e1:=cP (m:=aP (.st x::r)) (n:=1+(x.nodes+y.nodes)+aP r-2) (by omega)
  have e2:=cP (m:=aP (.st y::r)) (n:=1+(x.nodes+y.nodes)+aP r-2) (by omega)
  have hg2:GOk cc (cS w (aR s.sum w.vars).1 (bk w s.sum g)):=hg.flag.flag.flag
  have hg3:=iu hE (la:=bT) (frm:=frm) (n:=n) (w:=w.fact (aR s.sum w.vars).1) p1 hg2
  refine ao (af (ae (ab Z (jn (ah Z (fun z17=>?_) (fun z17=>?_))))))
  cases z17
  refine aj (af (ae (az Z (js Z (jn (ah Z (fun z31=>?_) (fun z31=>?_)))))))
  cases z31
  refine aj (af (rC [_,_,_,_,_,_,_,_,_,_,_,_] [pn [] 0 1,pn [0] 0 1,pn [0,1] 0 1,pn [0,1,2] 0 1,pn [] 0 2,pn [4] 0 2,pn [4,5] 0 2,pn [4,5,6] 0 2,pn [] 0 1,pe [] 0,pe [0,1,2,3,8,9] 1,pe [0,1,2,3,4,5,6,7,8,9,10] 2] [9,10,11] 8 6 (.box [.d .nilp]) [_,_] [_,_] [] (ai (kf Z Z Z (kg Z Z Z)) (ai (kf Z Z Z (kg Z Z Z)) (ai (kf Z Z Z (kg Z Z Z)) (ai (kf Z Z Z (kg Z Z Z)) (ai (kf Z Z Z (kf Z Z Z (kg Z Z Z))) (ai (kf Z Z Z (kf Z Z Z (kg Z Z Z))) (ai (kf Z Z Z (kf Z Z Z (kg Z Z Z))) (ai (kf Z Z Z (kf Z Z Z (kg Z Z Z))) (ai (ai (ai (aI (Eff.alloc O Z Z Z Z Z Z)) Z) (ai (aI (Eff.alloc O Z Z Z Z Z Z)) Z)) (ai (ai (aB (aI (Eff.alloc O Z Z Z Z Z Z)) (aI (Eff.alloc O Z Z Z Z Z Z))) Z) (ai (ai (aB trivial (aI (eS Z Z Z))) Z) (ai (ai (aB trivial (aI (eS Z Z Z))) Z) trivial)))))))))))) ?_))
  refine jw [7,6,31,17,16,15,2,3,4] Z (b0 ?_)
  refine af (ae (az Z (js Z (jn (ao (ae (ab Z (jn (ah Z (fun z65=>?_) (fun z65=>?_))))))))))
  exact absurd (bK z65) (by omega)
  refine ae (ab Z (jn (ah Z (fun z84=>?_) (fun z84=>?_))))
  exact absurd (bK z84) (by omega)
  refine ae (ab Z (jn (ah Z (fun z103=>?_) (fun z103=>?_))))
  exact absurd (bK z103) (by omega)
  refine ae (ab Z (jn (ah Z (fun z130=>?_) (fun z130=>?_))))
  exact absurd (bK z130) (by omega)
  refine ae (ab Z (jn (ah Z (fun z145=>?_) (fun z145=>?_))))
  exact absurd (bK z145) (by omega)
  refine ae (ab Z (jn (ah Z (fun z157=>?_) (fun z157=>?_))))
  exact absurd (bK z157) (by omega)
  refine ae (ab Z (jn (ah Z (fun z178=>?_) (fun z178=>?_))))
  refine af ?_
  have hT:=FJ (c:=(ch E SS bd lo be nm)) (g:=(bk w s.sum g)) (frm:=frm) (w:=w) (t:=(aR s.sum w.vars).1) (d8:=Tr.d (.node s k [x,y])) (d9:=fD r) (Y:=(fi bT E frm n (.st x::r))) (N:=(fi bT E frm n (.st y::r))) h1 h2 (fun u g h=>de h) (fun u g h=>de h) fo (by omega) (by omega) (by omega) (fun _=>Iu h1 h2 (ih n (by omega) ⟨fl,_,p1⟩ (by omega) (hw.fact) hg2 (by omega))) (fun _=>It h1 h2 (ih n (by omega) ⟨fl,_,p2⟩ (by omega) (hw.fact) hg3 (by omega)))
  refine kJ [_,_,_,_,_,_,_,_,_,_,_,_,_,_,_,_] [pn [] 0 1,pn [0] 0 1,pn [0,1] 0 1,pn [] 0 1,aF,ag [4],ag [4,5],aF,ag [7],ag [7,8],ag [7,8,9],ag (rg 7 4),pe (rg 4 8) 0,pn [] 0 1,pn [] 0 1,pe (rg 0 15) 1] [12,15] [_,[(3,pB 500),(6,xB (Tr.d (.node s (k:Nat) [x,y]))),(7,xB (fD r)),(500,iB (ch E SS bd lo be nm) (bk w s.sum g) 901 902 503),(901,aY (bk w s.sum g).paths),(902,aW (bk w s.sum g).conds),(503,bn nm),(4,iW frm w 904 905 906),(904,aN w.vars),(905,aN w.facts),(906,aO w.ev)],_] [[],[901,902,904,905,906]] (ai (ka Z Z (kw Z Z)) (ai (ka Z Z (kw Z Z)) (ai (ka Z Z (kw Z Z)) (ai (ka Z Z (kw Z Z)) (ka Z Z (ka Z Z (ka Z Z (ka Z Z (ka Z Z (ka Z Z (ka Z Z (ka Z Z (ai (ai (aI (ct O [500,901,902,503,4,904,905,906] (bin:=[iB (ch E SS bd lo be nm) g 1 2 3,aY g.paths,aW g.conds,bn nm,iW frm w 5 6 7,aN w.vars,aN w.facts,aO w.ev]) Z Z Z Z (oN (c:=(ch E SS bd lo be nm)) (frm:=frm) (w:=w) (g:=g) (t:=s.sum) h1 h2 htm.1.1 hva (by have:=htm.1.2;omega)) Z Z Z Z Z (B0:=193000) Z Z Z Z Z Z)) Z) (ai (ka Z Z (kw Z Z)) (ai (ka Z Z (kw Z Z)) (ai (ai (cF O [500,901,902,503,904,905,906,3,6,7] [901,902,904,905,906] (bin:=[iB (ch E SS bd lo be nm) (bk w s.sum g) 1 2 3,aY (bk w s.sum g).paths,aW (bk w s.sum g).conds,bn nm,aN w.vars,aN w.facts,aO w.ev,pB 0,xB (Tr.d (.node s k [x,y])),xB (fD r)]) Z Z Z Z (hT) Z Z Z Z Z (B0:=196000) Z Z Z Z Z Z Z) Z) trivial)))))))))))))))) ?_
  refine jw [178,179,157,158,145,146,130,131,103,104,84,85,65,66,64,7,6,31,17,16,15,2,3,4] Z (b0 ?_)
  refine ea ?_
  rw[←hG]
  refine⟨.inl Z,_,(aa 196010 510 Z Z).trans (aa 196011 511 Z Z),_,Z,Z,Z⟩
  exact absurd (cu z178) (by omega)
 | @loop i k x r hi hs hk h8=>
  have hb:g.bad=false:=by simpa using z15
  have hnum:=hP.num _ hk h8
  have hf:=ja (hE.st _ hk)
  have hEn:=hE.num _ hk h8
  generalize hs0:b.getD k default=s at h8 hf hG hlt hbd hge ⊢
  rw[ju hb,hEn]at hG
  refine ao (af (ae (ab Z (jn (ah Z (fun z17=>?_) (fun z17=>?_))))))
  cases z17
  refine aj (af (ae (az Z (js Z (jn (ah Z (fun z31=>?_) (fun z31=>?_)))))))
  cases z31
  refine aj (af (rC [_,_,_,_,_,_,_,_,_,_,_,_] [pn [] 0 1,pn [0] 0 1,pn [0,1] 0 1,pn [0,1,2] 0 1,pn [] 0 2,pn [4] 0 2,pn [4,5] 0 2,pn [4,5,6] 0 2,pn [] 0 1,pe [] 0,pe [0,1,2,3,8,9] 1,pe [0,1,2,3,4,5,6,7,8,9,10] 2] [9,10,11] 8 6 (.box [.d .nilp]) [_,_] [_,_] [] (ai (kf Z Z Z (kg Z Z Z)) (ai (kf Z Z Z (kg Z Z Z)) (ai (kf Z Z Z (kg Z Z Z)) (ai (kf Z Z Z (kg Z Z Z)) (ai (kf Z Z Z (kf Z Z Z (kg Z Z Z))) (ai (kf Z Z Z (kf Z Z Z (kg Z Z Z))) (ai (kf Z Z Z (kf Z Z Z (kg Z Z Z))) (ai (kf Z Z Z (kf Z Z Z (kg Z Z Z))) (ai (ai (ai (aI (Eff.alloc O Z Z Z Z Z Z)) Z) (ai (aI (Eff.alloc O Z Z Z Z Z Z)) Z)) (ai (ai (aB (aI (Eff.alloc O Z Z Z Z Z Z)) (aI (Eff.alloc O Z Z Z Z Z Z))) Z) (ai (ai (aB trivial (aI (eS Z Z Z))) Z) (ai (ai (aB trivial (aI (eS Z Z Z))) Z) trivial)))))))))))) ?_))
  refine jw [7,6,31,17,16,15,2,3,4] Z (b0 ?_)
  refine af (ae (az Z (js Z (jn (ao (ae (ab Z (jn (ah Z (fun z65=>?_) (fun z65=>?_))))))))))
  exact absurd (bK z65) (by omega)
  refine ae (ab Z (jn (ah Z (fun z84=>?_) (fun z84=>?_))))
  exact absurd (bK z84) (by omega)
  refine ae (ab Z (jn (ah Z (fun z103=>?_) (fun z103=>?_))))
  exact absurd (bK z103) (by omega)
  refine ae (ab Z (jn (ah Z (fun z130=>?_) (fun z130=>?_))))
  exact absurd (bK z130) (by omega)
  refine ae (ab Z (jn (ah Z (fun z145=>?_) (fun z145=>?_))))
  exact absurd (bK z145) (by omega)
  refine ae (ab Z (jn (ah Z (fun z157=>?_) (fun z157=>?_))))
  exact absurd (bK z157) (by omega)
  refine ae (ab Z (jn (ah Z (fun z178=>?_) (fun z178=>?_))))
  exact absurd (bK z178) (by omega)
  refine ae (ab Z (jn (ah Z (fun z196=>?_) (fun z196=>?_))))
  refine af (fZ [_,_,_,_,_,_,_,_,_,_] [aF,ag [0],ag [0,1],ag [0,1,2],aF,ag [4],ag [4,5],ag [4,5,6],ag (rg 0 8),ag (rg 0 9)] [] [_] (cw Z (cw Z (ai ((vw (kt:=2) (et:=2) (q:=.i64) (z:=.int .i64 0) (es:=nm) (k:=(k:Nat)) O Z Z Z GT uK zK Z Z Z Z).cast (v':=eI (br b k:Nat)) (by rw[hnum];rfl)) (kc Z trivial)))) ?_)
  refine jw [9,196,197,178,179,157,158,145,146,130,131,103,104,84,85,65,66,64,7,6,31,17,16,15,2,3,4] Z (b0 ?_)
  refine af (kJ [_,_,_,_,_,_,_,_,_,_] [aF,ag [0],ag [0,1],aF,aF,ag [4],ag [4,5],ag [4,5,6],ag (rg 4 4),pe (rg 0 9) 0] [9] [_,_] [[901,902]] (ka Z Z (ka Z Z (ka Z Z (ka Z Z (ka Z Z (ka Z Z (ka Z Z (ka Z Z (ka Z Z (ai (ai (cF O [500,901,902,503,4,904,905,906] [901,902] (bin:=[iB (ch E SS bd lo be nm) g 1 2 3,aY g.paths,aW g.conds,bn nm,iW frm w 5 6 7,aN w.vars,aN w.facts,aO w.ev]) Z Z Z Z (zX (c:=(ch E SS bd lo be nm)) (g:=g) (frm:=frm) (w:=w) (to:=(br b k:Nat)) (fs:=s.facts) h1 h2 hw.ctx hw.vars hf.1 (by have:=hf.2;omega) (by omega)) Z Z Z Z Z (B0:=217000) Z Z Z Z Z Z Z) Z) trivial)))))))))) ?_)
  refine jw [196,197,178,179,157,158,145,146,130,131,103,104,84,85,65,66,64,7,6,31,17,16,15,2,3,4] Z (b0 ?_)
  refine ea ?_
  rw[←hG]
  refine⟨.inl Z,_,(aa 217009 510 Z Z).trans (aa 217008 511 Z Z),_,Z,Z,Z⟩
  exact absurd (cu z196) (by omega)
 refine bg ?_
 show _∧_
 have hb:g.bad=true:=by simpa using z15
 rw[←hG,de hb]
 refine⟨.inr Z,_,(aa 901 510 Z Z).trans (aa 902 511 Z Z),_,Z,Z,Z⟩
theorem zY{L:Nat}(h1:4096≤L)(h2:L≤1073741824){E:Pe}{b:List Sm}{SS:List (List Tm)}{bd lo be:D}{nm:List (Int×D)}{frm:Int}(hE:EOk E b)(hbl:b.length≤1000)(hP:PcOk E b SS nm)(n:Nat): ∀{r:List Fr} {w:Pw} {g:Gs} {c:Nat},(∃fl i,Pl b fl i r)→aP r<n→WOk n w→GOk c g→c+rD (aP r)≤L→pr L (ch E SS bd lo be nm) frm w g (fD r) (fi bT E frm n r w g):=by
 induction n using Nat.strongRecOn with
 | _ n ih=>
  intro r w g c hp hn hw hg hL
  exact FK h1 h2 hE hbl hP (N:=n) (r0:=r) (w0:=w) (g0:=g) (c0:=c) (fun m hm=>ih m hm) ⟨hp,hn,da _,hw,hg,hL,Z⟩
structure Fd where
  lp:List Lp
  nm:List (Int×D)
def iY:Tr→List Fr→Fd→Fd
  | .node s a [x,y],r,c=>if s.kind=1 then iY y r (iY x (.st y::r) c)else iY y r (iY x r c)
  | .node s a [x],r,c=>iY x [.lp c.lp.length] ⟨c.lp++[⟨s,a.toNat,x,r⟩],gG c.nm a (.int .i64 (c.lp.length:Nat))⟩
  | _,_,c=>c
abbrev lE(q:Lp):D:=Tr.d (.node q.s (q.a:Nat) [q.x])
abbrev zB(post bd:D)(c:Fd)(i j k m:Nat):B:=.box [.d post,.rs i 0 (c.lp.length+1),.d .nils,.d .nils,.d (.bool false),.d bd,.rs j 0 c.lp.length,.rs k 0 c.lp.length,.mp m]
abbrev zf(pre:List Tm)(c:Fd):B:=.row false 1 ((pre::c.lp.map (·.s.facts)).map fun f=>[fC f])
abbrev zh(c:Fd):B:=.row false 1 (c.lp.map fun q=>[lE q])
abbrev zj(c:Fd):B:=.row false 1 ((c.lp.map (·.r)).map fun r=>[fD r])
abbrev zH(post bd:D)(pre:List Tm)(c:Fd):List (Nat×B):=[(0,zB post bd c 1 2 3 4),(1,zf pre c),(2,zh c),(3,zj c),(4,bn c.nm)]
abbrev zO(post bd:D)(pre:List Tm)(c:Fd):List (Nat×B):=[(0,zB post bd c 10 11 12 4),(4,bn c.nm),(10,zf pre c),(11,zh c),(12,zj c)]
abbrev qb(L:Nat)(post bd:D)(pre:List Tm)(t r:D)(c c':Fd):Prop:=MC Tryz.prog L 69 [.c (.pt 0 0 0),.c (.d t),.c (.d r)] (zH post bd pre c) (bb (.tup []) (zO post bd pre c'))
theorem DD{L:Nat}{post bd:D}{pre:List Tm}{t d1 d2 d3:D}{c c':Fd}(h:qb L post bd pre t (.ptr [d1,d2,d3] 0) c c'):MC Tryz.prog L 69 [.c (.pt 0 0 0),.c (.d t),.c (.pt 5 0 0)] (zH post bd pre c++[(5,BW d1 d2 d3)]) (bb (.tup []) (zO post bd pre c')):=
  MC.freeze 5 Z (.cons (.keep Z) (.cons (.keep Z) (.cons (.c (.box Z (aE Z))) .nil))) (.cons Z (.box (.cons (.keep Z) (.cons (.keep Z) (.cons (.keep Z) (.cons (.keep Z) (.cons (.keep Z) (.cons (.keep Z) (.cons (.keep Z) (.cons (.keep Z) (.cons (.keep Z) .nil)))))))))) (bh Z (bh Z (bh Z (.cons Z .map (.skip .nil)))))) Z h
theorem wN{L:Nat}(h1:4096≤L)(h2:L≤1073741824){post bd:D}{pre:List Tm}{s:Sm}{r:List Fr}{c c1 c2:Fd}{a:Int}(hk:s.kind≠1∧s.kind≠7∧s.kind≠8):qb L post bd pre (Tr.d (.node s a [])) (fD r) c c:=by
 refine MC.shift 500 Z (MC.keep [500,504,510,511,512] (bs:=[zB post bd c 510 511 512 504,bn c.nm,zf pre c,zh c,zj c]) Z Z (jH 124 [500,501,502,503,504] h1 h2 Tryz.func69 Z fun O hF=>?_))
 refine b0 ?_
 refine ae (az Z (js Z (jn (ao (ae (ab Z (jn (ah Z (fun z12=>?_) (fun z12=>?_)))))))))
 exact absurd (bK z12) (by omega)
 refine ae (ab Z (jn (ah Z (fun z40=>?_) (fun z40=>?_))))
 exact absurd (bK z40) (by omega)
 refine ae (ab Z (jn (ah Z (fun z60=>?_) (fun z60=>?_))))
 exact absurd (bK z60) (by omega)
 refine aj ?_
 show _∧_
 refine⟨.inr Z,_,((aa 501 510 Z Z).trans (aa 502 511 Z Z)).trans (aa 503 512 Z Z),_,Z,Z,Z⟩
theorem yU{L:Nat}(h1:4096≤L)(h2:L≤1073741824){post bd:D}{pre:List Tm}{s:Sm}{r:List Fr}{c c1 c2:Fd}{a:Int}{x y:Tr}(hk:s.kind=1)(ih1:qb L post bd pre x.d (fD (.st y::r)) c c1)(ih2:qb L post bd pre y.d (fD r) c1 c2):qb L post bd pre (Tr.d (.node s a [x,y])) (fD r) c c2:=by
 refine MC.shift 500 Z (MC.keep [500,504,510,511,512] (bs:=[zB post bd c2 510 511 512 504,bn c2.nm,zf pre c2,zh c2,zj c2]) Z Z (jH 124 [500,501,502,503,504] h1 h2 Tryz.func69 Z fun O hF=>?_))
 refine b0 ?_
 refine ae (az Z (js Z (jn (ao (ae (ab Z (jn (ah Z (fun z12=>?_) (fun z12=>?_)))))))))
 refine af (jw [13,11,0,1,2] Z (kJ [_,_,_,_,_,_,_,_,_,_,_,_,_,_,_,_,_] [pn [] 0 1,pn [] 0 1,pn [1] 0 1,pn [1,2] 0 1,pn [1,2,3] 0 1,pn (rg 1 4) 0 1,pn (rg 1 5) 0 1,aF,ag [7],ag [7,8],ag [7,8,9],ag (rg 7 4),ag (rg 7 5),aF,ag (rg 7 7),pe (rg 7 8) 0,pe (rg 0 16) 1] [15,16] [_,_,_] [[],[501,502,503,29]] (ai (ka Z Z (kw Z Z)) (ai (ka Z Z (kw Z Z)) (ai (ka Z Z (kw Z Z)) (ai (ka Z Z (kw Z Z)) (ai (ka Z Z (kw Z Z)) (ai (ai (ai (bN O Z Z Z Z Z Z Z Z (by simp[Trs.d]) Z) Z) (ai (bN O Z Z Z Z Z Z Z Z (by simp[Trs.d]) Z) Z)) (ai (ka Z Z (kw Z Z)) (ka Z Z (ka Z Z (ka Z Z (ka Z Z (ai (ai (bN O Z Z Z Z Z Z Z Z (by simp[Trs.d]) Z) Z) (ka Z Z (ka Z Z (ka Z Z (ai (ai (aI (Eff.box O Z Z Z Z Z Z Z Z)) Z) (ai (ai (cF O [500,501,502,503,504,29] [501,502,503,29] (bin:=[zB post bd c 1 2 3 4,zf pre c,zh c,zj c,bn c.nm,BW y.d (.int .i64 0) (fD r)]) Z Z Z Z (DD ih1) Z Z Z Z Z (B0:=31000) Z Z Z Z Z Z Z) Z) trivial))))))))))))))))) ?_))
 refine jw [13,11,0,1,2] Z (b0 ?_)
 refine ak (az Z (js Z (av (bN O Z Z Z Z Z Z Z Z (by simp[Trs.d]) Z) Z (ab Z (au O [500,31010,31011,31012,504] (bin:=[zB post bd c1 1 2 3 4,zf pre c1,zh c1,zj c1,bn c1.nm]) Z Z Z Z (ih2) Z Z Z Z Z Z (B0:=40000) Z Z (aq ?_))))))
 refine jn ?_
 show _∧_
 refine⟨.inr Z,_,((aa 40010 510 Z Z).trans (aa 40011 511 Z Z)).trans (aa 40012 512 Z Z),_,Z,Z,Z⟩
 exact absurd (cu z12) (by omega)
theorem BF{L:Nat}(h1:4096≤L)(h2:L≤1073741824){post bd:D}{pre:List Tm}{s:Sm}{r:List Fr}{c c1 c2:Fd}{a:Int}{x y:Tr}(hk:s.kind=7)(ih1:qb L post bd pre x.d (fD r) c c1)(ih2:qb L post bd pre y.d (fD r) c1 c2):qb L post bd pre (Tr.d (.node s a [x,y])) (fD r) c c2:=by
 refine MC.shift 500 Z (MC.keep [500,504,510,511,512] (bs:=[zB post bd c2 510 511 512 504,bn c2.nm,zf pre c2,zh c2,zj c2]) Z Z (jH 124 [500,501,502,503,504] h1 h2 Tryz.func69 Z fun O hF=>?_))
 refine b0 ?_
 refine ae (az Z (js Z (jn (ao (ae (ab Z (jn (ah Z (fun z12=>?_) (fun z12=>?_)))))))))
 exact absurd (bK z12) (by omega)
 refine ae (ab Z (jn (ah Z (fun z40=>?_) (fun z40=>?_))))
 refine ae (az Z (js Z (av (bN O Z Z Z Z Z Z Z Z (by simp[Trs.d]) Z) Z (ab Z (au O [500,501,502,503,504] (bin:=[zB post bd c 1 2 3 4,zf pre c,zh c,zj c,bn c.nm]) Z Z Z Z (ih1) Z Z Z Z Z Z (B0:=51000) Z Z (aq ?_))))))
 refine jn (ak (az Z (js Z (av (bN O Z Z Z Z Z Z Z Z (by simp[Trs.d]) Z) Z (ab Z (au O [500,51010,51011,51012,504] (bin:=[zB post bd c1 1 2 3 4,zf pre c1,zh c1,zj c1,bn c1.nm]) Z Z Z Z (ih2) Z Z Z Z Z Z (B0:=60000) Z Z (aq ?_)))))))
 refine jn ?_
 show _∧_
 refine⟨.inr Z,_,((aa 60010 510 Z Z).trans (aa 60011 511 Z Z)).trans (aa 60012 512 Z Z),_,Z,Z,Z⟩
 exact absurd (cu z40) (by omega)
theorem wM{L:Nat}(h1:4096≤L)(h2:L≤1073741824){post bd:D}{pre:List Tm}{s:Sm}{r:List Fr}{c c1 c2:Fd}{k:Nat}{x:Tr}(hk:s.kind=8)(hl:c.lp.length≤1000)(ih:qb L post bd pre x.d (fD [.lp c.lp.length]) (⟨c.lp++[⟨s,k,x,r⟩],gG c.nm (k:Nat) (.int .i64 (c.lp.length:Nat))⟩:Fd) c2):qb L post bd pre (Tr.d (.node s (k:Nat) [x])) (fD r) c c2:=by
 refine MC.shift 500 Z (MC.keep [500,504,510,511,512] (bs:=[zB post bd c2 510 511 512 504,bn c2.nm,zf pre c2,zh c2,zj c2]) Z Z (jH 124 [500,501,502,503,504] h1 h2 Tryz.func69 Z fun O hF=>?_))
 refine b0 ?_
 refine ae (az Z (js Z (jn (ao (ae (ab Z (jn (ah Z (fun z12=>?_) (fun z12=>?_)))))))))
 exact absurd (bK z12) (by omega)
 refine ae (ab Z (jn (ah Z (fun z40=>?_) (fun z40=>?_))))
 exact absurd (bK z40) (by omega)
 refine ae (ab Z (jn (ah Z (fun z60=>?_) (fun z60=>?_))))
 refine ae (az Z (dv Z Z (bP Z (yp (n:=c.lp.length) h1 h2) 68000 Z (js Z (jn (af (fZ [_,_,_,_,_,_,_,_,_,_] [aF,ag [0],ag [0,1],ag [0,1,2],aF,ag [4],ag [4,5],ag [4,5,6],aF,pe (rg 0 9) 0] [9] [_,_] (cw Z (cw Z (kc Z (ai (Eff.mapUpdate (kt:=2) (et:=2) (q:=.i64) (es:=c.nm) (k:=(k:Nat)) (v:=.int .i64 (c.lp.length:Nat)) O Z Z Z Z GT uK Z Z Z Z Z Z) trivial)))) ?_)))))))
 refine jw [6,13,11,0,1,2] Z (b0 ?_)
 refine ae (az Z (ab Z (aU (bp O Z Z Z Z Z Z Z Z Z Z Z) Z (aq ?_))))
 refine aU (cU (own:=false) (xs:=c.lp.map fun q=>[lE q]) (ys:=[[lE (⟨s,k,x,r⟩:Lp)]]) (zs:=(c.lp++[(⟨s,k,x,r⟩:Lp)]).map fun q=>[lE q]) (n:=(c.lp++[(⟨s,k,x,r⟩:Lp)]).length) O Z (.row Z (bQ _).symm) (.whole Z Z (.inr ⟨Z,Z⟩)) (by simp) Z (by simp;omega) (by simp;omega) (by simp) (by simp)) Z (aq ?_)
 refine aq ?_
 refine ab Z (jo Z (aq ?_))
 refine ba (az Z (ab Z (aU (bp O Z Z Z Z Z Z Z Z Z Z Z) Z (aq ?_))))
 refine aU (cU (own:=false) (xs:=(c.lp.map (·.r)).map fun r=>[fD r]) (ys:=[[fD r]]) (zs:=((c.lp++[(⟨s,k,x,r⟩:Lp)]).map (·.r)).map fun r=>[fD r]) (n:=(c.lp++[(⟨s,k,x,r⟩:Lp)]).length) O Z (.row Z (by simp)) (.whole Z Z (.inr ⟨Z,Z⟩)) (by simp) Z (by simp;omega) (by simp;omega) (by simp) (by simp)) Z (aq ?_)
 refine aq ?_
 refine ab Z (jo Z (aq ?_))
 refine jn (af (kJ [_,_,_,_,_,_,_,_,_,_,_,_,_,_,_,_,_] [pn [] 0 2,pn [] 0 1,pn [1] 0 1,pn [1,2] 0 1,pn [1,2,3] 0 1,pn (rg 1 4) 0 1,aF,ag [6],ag [6,7],ag [6,7,8],ag (rg 6 4),pe (rg 6 5) 0,pe (rg 1 11) 1,pn (rg 0 13) 2 2,pn (rg 0 14) 2 2,pn (rg 0 15) 2 2,pe (rg 0 16) 2] [11,12,16] [_,_,_,_] [[],[501],[]] (ai (ka Z Z (ka Z Z (kw Z Z))) (ai (ka Z Z (kw Z Z)) (ai (ka Z Z (kw Z Z)) (ai (ka Z Z (kw Z Z)) (ai (ka Z Z (kw Z Z)) (ai (ka Z Z (kw Z Z)) (ka Z Z (ka Z Z (ka Z Z (ka Z Z (ka Z Z (ai (ai (aI (cQ O Z Z Z Z Z Z Z Z Z Z Z Z Z Z)) Z) (ai (ai (cp (own:=false) (xs:=(pre::c.lp.map (·.s.facts)).map fun f=>[fC f]) (ys:=[[fC s.facts]]) (zs:=(pre::(c.lp++[(⟨s,k,x,r⟩:Lp)]).map (·.s.facts)).map fun f=>[fC f]) (n:=(c.lp++[(⟨s,k,x,r⟩:Lp)]).length+1) O Z Z Z Z Z Z Z Z Z Z Z Z Z Z Z Z (.row Z (by simp)) (.whole Z Z (.inr ⟨Z,Z⟩)) (by simp) Z (by simp;omega) (by simp;omega) (by simp) (by simp) Z) Z) (ka Z Z (ka Z Z (ka Z Z (ai (ai (aI (eS Z Z Z)) Z) trivial))))))))))))))))) ?_))
 refine jw [6,13,11,0,1,2] Z (b0 ?_)
 refine ak (az Z (js Z (av (bN O Z Z Z Z Z Z Z Z (by simp[Trs.d]) Z) Z (aH Z (jx Z (aq ?_))))))
 refine au O [500,109,84,94,504,122] (bin:=[zB post bd (⟨c.lp++[⟨s,k,x,r⟩],gG c.nm (k:Nat) (.int .i64 (c.lp.length:Nat))⟩:Fd) 1 2 3 4,zf pre (⟨c.lp++[⟨s,k,x,r⟩],gG c.nm (k:Nat) (.int .i64 (c.lp.length:Nat))⟩:Fd),zh (⟨c.lp++[⟨s,k,x,r⟩],gG c.nm (k:Nat) (.int .i64 (c.lp.length:Nat))⟩:Fd),zj (⟨c.lp++[⟨s,k,x,r⟩],gG c.nm (k:Nat) (.int .i64 (c.lp.length:Nat))⟩:Fd),bn (⟨c.lp++[⟨s,k,x,r⟩],gG c.nm (k:Nat) (.int .i64 (c.lp.length:Nat))⟩:Fd).nm,BW .nilp (.int .i64 (c.lp.length:Nat)) .nilp]) Z Z Z Z (DD ih) Z Z Z Z Z Z (B0:=124000) Z Z (aq ?_)
 refine jn ?_
 show _∧_
 refine⟨.inr Z,_,((aa 124010 510 Z Z).trans (aa 124011 511 Z Z)).trans (aa 124012 512 Z Z),_,Z,Z,Z⟩
 exact absurd (cu z60) (by omega)
theorem rQ{L:Nat}(h1:4096≤L)(h2:L≤1073741824){b:List Sm}{post bd:D}{pre:List Tm}: ∀{t:Tr} {k k':Nat},cD b k=some (t,k')→∀{r:List Fr} {c:Fd},c.lp.length+t.nodes≤1000→qb L post bd pre t.d (fD r) c (iY t r c)∧(iY t r c).lp.length≤c.lp.length+t.nodes
 | .node s a [x,y],k,k',h,r,c,hc=>by
  obtain⟨e1,rfl,e3,e4,e5⟩:=cx h
  obtain rfl:=dj h
  obtain⟨k1,i1,i2⟩:=cr e4
  obtain⟨k2,i3,i4⟩:=cr i2
  have hn:Tr.nodes (.node (b.getD k default) (k:Nat) [x,y])=1+(x.nodes+y.nodes):=by simp[Tr.nodes,Trs.nodes]
  rw[hn]at hc ⊢
  by_cases hk:(b.getD k default).kind=1
  rw[iY,if_pos hk]
  obtain⟨a1,a2⟩:=rQ h1 h2 i1 (r:=.st y::r) (c:=c) (by omega) (post:=post) (bd:=bd) (pre:=pre)
  obtain⟨b1,b2⟩:=rQ h1 h2 i3 (r:=r) (c:=iY x (.st y::r) c) (by omega) (post:=post) (bd:=bd) (pre:=pre)
  exact⟨yU h1 h2 hk a1 b1,by omega⟩
  rw[iY,if_neg hk]
  obtain⟨a1,a2⟩:=rQ h1 h2 i1 (r:=r) (c:=c) (by omega) (post:=post) (bd:=bd) (pre:=pre)
  obtain⟨b1,b2⟩:=rQ h1 h2 i3 (r:=r) (c:=iY x r c) (by omega) (post:=post) (bd:=bd) (pre:=pre)
  have hk7:(b.getD k default).kind=7:=by
   have h3:bC (b.getD k default).kind=2:=e5.symm
   unfold bC at h3
   split at h3
   omega
   split at h3
   assumption
   split at h3<;>omega
  exact⟨BF h1 h2 hk7 a1 b1,by omega⟩
 | .node s a [x],k,k',h,r,c,hc=>by
  obtain⟨e1,rfl,e3,e4,e5⟩:=cx h
  obtain rfl:=dj h
  obtain⟨k1,i1,i2⟩:=cr e4
  have hk8:(b.getD k default).kind=8:=ln e5.symm
  have hn:Tr.nodes (.node (b.getD k default) (k:Nat) [x])=1+x.nodes:=by simp[Tr.nodes,Trs.nodes]
  rw[hn]at hc ⊢
  rw[iY,Int.toNat_natCast]
  obtain⟨a1,a2⟩:=rQ h1 h2 i1 (r:=[.lp c.lp.length]) (c:=⟨c.lp++[⟨b.getD k default,k,x,r⟩],gG c.nm (k:Nat) (.int .i64 (c.lp.length:Nat))⟩) (by simp only[cG,dL];omega) (post:=post) (bd:=bd) (pre:=pre)
  refine⟨wM (c1:=c) h1 h2 hk8 (by omega) a1,?_⟩
  simp only[cG,dL]at a2;omega
 | .node s a [],k,k',h,r,c,hc=>by
  obtain⟨e1,rfl,e3,e4,e5⟩:=cx h
  obtain rfl:=dj h
  have hne:=je (e5.symm:bC (b.getD k default).kind=0)
  have e:iY (.node (b.getD k default) (k:Nat) []) r c=c:=by rw[iY]<;>simp
  rw[e]
  exact⟨wN (c1:=c) (c2:=c) h1 h2 ⟨hne.1,hne.2.1,hne.2.2⟩,Nat.le_add_right _ _⟩
 | .node s a (x::y::z::ks),k,k',h,r,c,hc=>by
  obtain⟨e1,rfl,e3,e4,e5⟩:=cx h
  have h2:=(c7 (b.getD k default).kind).2
  simp only[eH]at e5
  omega
theorem uR{es:List (Int×D)}{k j:Int}{v:D}:mR (gG es k v) j=if j=k then some v else mR es j:=by
 induction es with
 | nil=>simp only[gG,mR]
 | cons e es ih=>
  obtain⟨i,y⟩:=e
  by_cases hk:k=i
  subst hk
  simp only[gG,if_true,mR]
  by_cases h:j=k<;>simp[h]
  simp only[gG,if_neg hk,mR,ih]
  by_cases h:j=i
  subst h;rw[if_pos rfl,if_pos rfl,if_neg (Ne.symm hk)]
  rw[if_neg h,if_neg h]
structure FdOk(b:List Sm)(k:Nat)(c:Fd):Prop where
  len:c.lp.length=br b k
  at_: ∀q∈c.lp,q.a<k
  nm: ∀q∈c.lp,mR c.nm (q.a:Nat)=some (.int .i64 (br b q.a:Nat))
theorem FdOk.next{b:List Sm}{k:Nat}{c:Fd}(h:FdOk b k c)(h8: ¬(b.getD k default).kind=8):FdOk b (k+1) c:=
  ⟨by rw[h.len,br,if_neg h8];rfl,fun q hq=>Nat.lt_succ_of_lt (h.at_ q hq),h.nm⟩
theorem n5 {b:List Sm}: ∀{t:Tr} {k k':Nat},cD b k=some (t,k')→∀{r:List Fr} {c:Fd},FdOk b k c→FdOk b k' (iY t r c)∧(iY t r c).lp=c.lp++bo b t r
  | .node s a [x,y],k,k',h,r,c,hc=>by
    obtain⟨e1,rfl,e3,e4,e5⟩:=cx h
    obtain rfl:=dj h
    obtain⟨k1,i1,i2⟩:=cr e4
    obtain⟨k2,i3,i4⟩:=cr i2
    obtain rfl:=e9 i4
    have h8: ¬(b.getD k default).kind=8:=by
      intro h8;rw[h8]at e5;revert e5;simp only[eH,List.length_nil];decide
    by_cases hk:(b.getD k default).kind=1
    · rw[iY,if_pos hk,e8,if_pos hk]
      obtain⟨a1,a2⟩:=n5 i1 (r:=.st y::r) (hc.next h8)
      obtain⟨b1,b2⟩:=n5 i3 (r:=r) a1
      exact⟨b1,by rw[b2,a2,gF]⟩
    · rw[iY,if_neg hk,e8,if_neg hk]
      obtain⟨a1,a2⟩:=n5 i1 (r:=r) (hc.next h8)
      obtain⟨b1,b2⟩:=n5 i3 (r:=r) a1
      exact⟨b1,by rw[b2,a2,gF]⟩
  | .node s a [x],k,k',h,r,c,hc=>by
    obtain⟨e1,rfl,e3,e4,e5⟩:=cx h
    obtain rfl:=dj h
    obtain⟨k1,i1,i2⟩:=cr e4
    obtain rfl:=e9 i2
    have hk8:(b.getD k default).kind=8:=ln e5.symm
    rw[iY,jW,Int.toNat_natCast]
    have hlen:=hc.len
    have hn : FdOk b (k+1) ⟨c.lp++[⟨b.getD k default,k,x,r⟩],gG c.nm (k:Nat) (.int .i64 (c.lp.length:Nat))⟩:=by
      refine⟨?_,fun q hq=>?_,fun q hq=>?_⟩
      · rw[cG,dL,hlen,br,if_pos hk8]
      · rcases List.mem_append.1 hq with hq|hq
        · exact Nat.lt_succ_of_lt (hc.at_ q hq)
        · rw[List.mem_singleton.1 hq];exact Nat.lt_succ_self k
      · rcases List.mem_append.1 hq with hq|hq
        · have:=hc.at_ q hq
          rw[uR,if_neg (by omega)];exact hc.nm q hq
        · rw[List.mem_singleton.1 hq,uR,if_pos Z,hlen]
    obtain⟨a1,a2⟩:=n5 i1 (r:=[.lp c.lp.length]) hn
    refine⟨a1,?_⟩
    rw[a2,gF,hlen];rfl
  | .node s a [],k,k',h,r,c,hc=>by
    obtain⟨e1,rfl,e3,e4,e5⟩:=cx h
    obtain rfl:=dj h
    obtain rfl:=e9 e4
    have hne:=je (e5.symm:bC (b.getD k default).kind=0)
    have e:iY (.node (b.getD k default) (k:Nat) []) r c=c:=by rw[iY]<;>simp
    rw[e,jX,List.append_nil]
    exact⟨hc.next hne.2.2,Z⟩
  | .node s a (x::y::z::ks),k,k',h,r,c,hc=>by
    obtain⟨e1,rfl,e3,e4,e5⟩:=cx h
    have h2:=(c7 (b.getD k default).kind).2
    simp only[eH]at e5
    omega
theorem Bj{b:List Sm}{i j:Nat}(hi:(b.getD i default).kind=8)(hj:(b.getD j default).kind=8)(h:br b i=br b j):i=j:=by
 have key: ∀{i j:Nat},(b.getD i default).kind=8→br b i=br b j→¬i<j:=fun{i j} hi h hlt=>by
  have h1:=gY (b:=b) (show i+1≤j by omega)
  have h2:br b (i+1)=br b i+1:=by rw[br,if_pos hi]
  omega
 have h1:=key hi h
 have h2:=key hj h.symm
 omega
def kD(t:Tr):Fd:=iY t [] ⟨[],[]⟩
theorem oM{b:List Sm}{t:Tr}(hT:cD b 0=some (t,b.length)):FdOk b b.length (kD t)∧(kD t).lp=bo b t []:=by
 have h:=n5 hT (r:=[]) (c:=⟨[],[]⟩) ⟨rfl,fun q hq=>(by cases hq),fun q hq=>(by cases hq)⟩
 exact⟨h.1,h.2.trans (List.nil_append _)⟩
theorem Dw{b:List Sm}{t:Tr}(hT:cD b 0=some (t,b.length)){k:Nat}(hk:k<b.length)(h8:(b.getD k default).kind=8):br b k<(bo b t []).length∧((bo b t []).getD (br b k) default).a=k∧((bo b t []).getD (br b k) default).s=b.getD k default∧(bo b t []).getD (br b k) default∈bo b t []:=by
 have h1:br b (k+1)=br b k+1:=by rw[br,if_pos h8]
 have h2:=gY (b:=b) (show k+1≤b.length by omega)
 obtain⟨hm,ha⟩:=m6 hT (n:=br b k) (by omega)
 have hat:=(xa hT (r:=[])).at_ _ hm
 have he:=Bj hat.2.2.1 h8 ha
 have hl:=(oM hT).1.len
 rw[(oM hT).2]at hl
 exact⟨by omega,he,by rw[hat.2.2.2,he],hm⟩
theorem HU{b:List Sm}{t:Tr}{pre post:List Tm}(hT:cD b 0=some (t,b.length)):PcOk (t2 b post) b (pre::(kD t).lp.map (·.s.facts)) (kD t).nm:=by
 refine⟨fun k hk h8=>?_,fun k hk h8=>?_⟩
 obtain⟨h1,h2,h3,h4⟩:=Dw hT hk h8
 rw[(oM hT).2]
 refine⟨by simp;exact h1,?_⟩
 rw[List.getD_cons_succ,←h3]
 simp[List.getD_eq_getElem?_getD,h1]
 obtain⟨h1,h2,h3,h4⟩:=Dw hT hk h8
 have:=(oM hT).1.nm _ (by rw[(oM hT).2];exact h4)
 rw[h2]at this;exact this
theorem H8{z:List Tm}(hz:z=[]):MQ h1 h2 110 [cb z] [] (Rows (.c (.rs 0 0 0)) [aN []]):=by
 refine cH (jB 8 h1 h2 Tryz.func110 Z fun O hF=>?_)
 subst hz
 refine ae (js Z (jn (af (ae (js Z (w6 O Z Z Z Z Z Z Z Z Z Z (fun b=>?_)))))))
 refine jn (ah Z (fun _=>?_) (fun _=>?_))
 refine ae (js Z (jr ?_))
 refine⟨.inl Z,_,(cL 2 900 2 false Z Z).trans (Ent.to (e':=[(2,_)]) ⟨Z,ap⟩ Z),_,Z,[900],by decide,Z,Z,Z⟩
 refine aj (ae (aU (bO O Z Z Z) Z (js Z (ar (dr 5 Z) (aU (cU (own:=false) (zs:=[]) (n:=0) O Z (.row Z Z) (.slc (.inl Z)) (by simp) Z (by simp) (by simp) Z Z) Z (js Z (jr ?_)))))))
 refine⟨.inl Z,_,b9,_,Z,[7],by decide,Z,Z,Z⟩
theorem Ib{L:Nat}(h1:4096≤L)(h2:L≤1073741824){ts:List Tm}(hl:ts.length≤1000):MC Tryz.prog L 110 [cb ts] [] (Rows (.c (.rs 0 0 ts.length)) [aN ts]):=by
 cases ts with
 | nil=>exact H8 h1 h2 Z
 | cons c r=>exact Ek h1 h2 hl
variable{SS:List (List Tm)}{bd:D}{nm:List (Int×D)}
theorem Iz{lo be:D}{f:List Tm}(hn:n<SS.length)(hsl:SS.length≤1000)(hf:SS.getD n default=f)(hl:f.length≤1000):MQ h1 h2 71 [.c (.pt 0 0 0),eI ((n:Int)-1)] [(0,iB (ch E SS bd lo be nm) g 1 2 3),(1,aY g.paths),(2,aW g.conds),(3,bn nm)] (bb (wA ((n:Int)-1) (w0 f) 4 5 6) [(0,iB (ch E SS bd lo be nm) g 1 2 3),(1,aY g.paths),(2,aW g.conds),(3,bn nm),(4,aN (mN 4)),(5,aN f),(6,aO [])]):=by
 refine MC.shift 500 Z (MC.keep [500,501,502,503,504,505,506] (bs:=[iB (ch E SS bd lo be nm) g 501 502 503,aY g.paths,aW g.conds,bn nm,aN (mN 4),aN f,aO []]) Z Z (jH 30 [500,501,502,503] h1 h2 Tryz.func71 Z fun O hF=>?_))
 refine b0 ?_
 refine ae (jl Z (aq ?_))
 refine ba (az Z (ab Z (av ((vF Z).cast (v':=eI (n:Nat)) (congrArg eI (by omega))) Z (av ((bf O Z Z Z Z Z Z Z Z (dO hn)).cast (v':=ptr [fC f]) (by rw[hf])) Z (js Z (iM O (B0:=17000) Z Z Z Z (Ib (ts:=f) h1 h2 hl) (ac Z) Z Z Z Z Z (aq ?_)))))))
 refine js Z (jl Z (aq ?_))
 refine jo Z (aq ?_)
 refine jn (af (ae (js Z (jn (ao (aw (X:=Nat) (fun i=>⟨[(4,.c (.pt 4 0 0)),(5,.c (.pt 5 0 0)),(18,eI i)],[(4,.box [.d (.int .i64 0),.d .nils,.d .nils,.d .nils,.d .nils,.d (.int .i64 0)]),(5,.box [.d (.int .i64 ((n:Int)-1)),.rs 904 0 i,.d .nils,.rs 905 0 f.length,.rs 906 0 0,.d (.int .i64 4)]),(500,iB (ch E SS bd lo be nm) g 501 502 503),(501,aY g.paths),(502,aW g.conds),(503,bn nm),(904,aN (mN i)),(905,aN f),(906,aO [])]⟩) (fun i=>i≤4) (fun i=>4-i) 0 (((cz 5 904 2 false 1 Z Z Z).trans (cz 5 906 1 true 4 Z Z Z)).trans (((am [4,5,500,501,502,503,904,17000,906] (e':=[(4,_),(5,_),(18,_)]) Z Z ⟨Z,Z,Z,ap⟩ Z).trans (aa 17000 905 Z Z)).trans (Ent.to ⟨Z,Z,Z,ap⟩ Z))) ?_ (fun i hi=>?_)))))))
 exact cT _
 have hvl:=kj (i:=i)
 refine ae (js Z (jn (af (ah Z (fun z19=>?_) (fun z19=>?_)))))
 refine aj (af (ao (ae (ab Z (jn (kJ [_,_,_,_,_,_,_,_] [pn [] 0 2,pn [0] 0 2,aF,pe [2] 0,pe [2,3] 1,pe (rg 0 5) 2,pn (rg 0 6) 3 3,pe (rg 0 7) 3] [3,4,5,7] [_,_,_,_,_] [[],[],[904],[]] (ai (ka Z Z (ka Z Z (kw Z Z))) (ai (ka Z Z (ka Z Z (kw Z Z))) (ka Z Z (ai (ai (aI (bR O (B0:=25000) Z Z Z Z (DQ (k:=i) h1 h2 (by have:=bK z19;omega)) (ac Z) Z Z Z Z Z)) Z) (ai (ai (aI (cQ O Z Z Z Z Z Z Z Z Z Z Z Z Z Z)) Z) (ai (ai (cp (own:=false) (xs:=(mN i).map Tm.cells) (ys:=[Tm.cells (iV i)]) (zs:=(mN (i+1)).map Tm.cells) (n:=i+1) O Z Z Z Z Z Z Z Z Z Z Z Z Z Z Z Z (.row Z (by simp;omega)) (.whole Z Z (.inr ⟨Z,Z⟩)) (by simp) Z (by simp;omega) (by simp;omega) (by rw[um];simp) (by simp[kj]) Z) Z) (ka Z Z (ai (ai (aI (eS Z Z Z)) Z) trivial)))))))) ?_))))))
 refine jw [20,19,4,5,18] Z (b0 ?_)
 refine ak (ji Z (js Z (jn ?_)))
 refine⟨i+1,((am [4,5,500,501,502,503,26,905,906] (e':=[(4,_),(5,_),(18,_)]) Z Z ⟨Z,Z,Z,ap⟩ Z).trans (aa 26 904 Z Z)).trans (Ent.to ⟨Z,Z,Z,ap⟩ Z),by have:=bK z19;omega,by have:=bK z19;omega⟩
 refine bg (ae (js Z (jo Z (aq ?_))))
 refine jr ?_
 obtain rfl:i=4:=by have:=cu z19;omega
 refine⟨.inl Z,_,((aa 904 504 Z Z).trans (aa 905 505 Z Z)).trans (aa 906 506 Z Z),_,Z,Z,Z⟩
theorem Iy(ih:pr L c frm w g (fD [.st x,.lp k]) g'):MQ h1 h2 75 [wA frm w 4 5 6,.c (.pt 7 0 0),.c (.pt 8 0 0),.c (.pt 9 0 0)] (iT c g w (Tr.d (.node s a [x])) (.int .i64 (k:Nat))) (bb (.tup []) (oT c g' (Tr.d (.node s a [x])) (.int .i64 (k:Nat)))):=by
 refine MC.shift 500 Z (MC.keep [500,503,507,508,509,510,511] (bs:=[iB c g' 510 511 503,bn c.num,pB 500,xB (Tr.d (.node s a [x])),xB (.int .i64 (k:Nat)),aY g'.paths,aW g'.conds]) Z Z (jH 19 [500,501,502,503,504,505,506,507,508,509] h1 h2 Tryz.func75 Z fun O hF=>?_))
 refine b0 ?_
 refine ae (jx Z (aq ?_))
 refine jn (kJ [_,_,_,_,_,_,_,_,_,_,_,_,_,_] [pn [] 0 2,pn [] 0 2,pn [] 0 1,pn [2] 0 1,pn [2,3] 0 1,pn [2,3,4] 0 1,pn (rg 2 4) 0 1,pn (rg 2 5) 0 1,aF,ag [8],pe [8,9] 0,pn (rg 2 9) 1 1,pe (rg 2 10) 1,pe (rg 0 13) 2] [10,12,13] [_,_,_,_] [[],[],[501,502,504,505,506,17,15]] (ai (ka Z Z (ka Z Z (kw Z Z))) (ai (ka Z Z (ka Z Z (kw Z Z))) (ai (ka Z Z (kw Z Z)) (ai (ka Z Z (kw Z Z)) (ai (ka Z Z (kw Z Z)) (ai (ka Z Z (kw Z Z)) (ai (ai (ai (bN O Z Z Z Z Z Z Z Z (by simp[Trs.d]) Z) Z) (ai (bN O Z Z Z Z Z Z Z Z (by simp[Trs.d]) Z) Z)) (ai (ka Z Z (kw Z Z)) (ka Z Z (ka Z Z (ai (ai (aI (Eff.box O Z Z Z Z Z Z Z Z)) Z) (ka Z Z (ai (ai (aI (Eff.box O Z Z Z Z Z Z Z Z)) Z) (ai (ai (cF O [500,501,502,503,504,505,506,17,15] [501,502,504,505,506,17,15] (bin:=[iB c g 1 2 3,aY g.paths,aW g.conds,bn c.num,aN w.vars,aN w.facts,aO w.ev,.box [.d x.d,.d (.int .i64 0),.pt 8 0 0],BW .nilp (.int .i64 (k:Nat)) .nilp]) Z Z Z Z (ES ih) Z Z Z Z Z (B0:=19000) Z Z Z Z Z Z Z) Z) trivial)))))))))))))) ?_)
 show _∧_
 refine GN ?_
 refine⟨.inr Z,_,(aa 19010 510 Z Z).trans (aa 19011 511 Z Z),_,Z,Z,Z⟩
theorem Ix{lo:D}{RS:List (List Fr)}(hk:k<RS.length)(hr:RS.getD k default=r)(ih:pr L (ch E SS bd lo (.slc 1 (RS.map fun r=>[fD r])) nm) frm w g (fD r) g'):MQ h1 h2 76 [wA frm w 4 5 6,.c (.pt 7 0 0),.c (.pt 9 0 0)] (iT (ch E SS bd lo (.slc 1 (RS.map fun r=>[fD r])) nm) g w d8 (.int .i64 (k:Nat))) (bb (.tup []) (oT (ch E SS bd lo (.slc 1 (RS.map fun r=>[fD r])) nm) g' d8 (.int .i64 (k:Nat)))):=by
 refine MC.shift 500 Z (MC.keep [500,503,507,508,509,510,511] (bs:=[iB (ch E SS bd lo (.slc 1 (RS.map fun r=>[fD r])) nm) g' 510 511 503,bn nm,pB 500,xB d8,xB (.int .i64 (k:Nat)),aY g'.paths,aW g'.conds]) Z Z (jH 14 [500,501,502,503,504,505,506,507,508,509] h1 h2 Tryz.func76 Z fun O hF=>?_))
 refine b0 ?_
 refine ae (jx Z (aq ?_))
 refine jn (kJ [_,_,_,_,_,_,_,_,_,_] [aF,aF,aF,ag [2],ag [2,3],ag [2,3,4],aF,ag (rg 2 5),ag (rg 2 6),pe (rg 0 9) 0] [9] [_,_] [[501,502,504,505,506]] (ka Z Z (ka Z Z (ka Z Z (ka Z Z (ka Z Z (ka Z Z (ka Z Z (ai (ai ((bf O Z Z Z Z Z Z Z Z (dO hk)).cast (v':=ptr [fD r]) (by rw[hr])) Z) (ka Z Z (ai (ai (cF O [500,501,502,503,504,505,506] [501,502,504,505,506] (bin:=[iB (ch E SS bd lo (.slc 1 (RS.map fun r=>[fD r])) nm) g 1 2 3,aY g.paths,aW g.conds,bn nm,aN w.vars,aN w.facts,aO w.ev]) Z Z Z Z (ih) Z Z Z Z Z (B0:=14000) Z Z Z Z Z Z Z) Z) trivial)))))))))) ?_)
 show _∧_
 refine GN ?_
 refine⟨.inr Z,_,(aa 14010 510 Z Z).trans (aa 14011 511 Z Z),_,Z,Z,Z⟩
set_option maxHeartbeats 8000000
theorem tb{L:Nat}(h1:4096≤L)(h2:L≤1073741824){E:Pe}{SS:List (List Tm)}{bd lo be:D}{nm:List (Int×D)}{g:Gs}{n:Nat}{f:List Tm}{w:Pw}{frm:Int}(hw:w0 f=w)(hn:n<SS.length)(hsl:SS.length≤1000)(hf:SS.getD n default=f)(hl:f.length≤1000)(hfr:frm=(n:Int)-1):MC Tryz.prog L 71 [.c (.pt 0 0 0),eI frm] [(0,iB (ch E SS bd lo be nm) g 1 2 3),(1,aY g.paths),(2,aW g.conds),(3,bn nm)] (bb (wA frm w 4 5 6) [(0,iB (ch E SS bd lo be nm) g 1 2 3),(1,aY g.paths),(2,aW g.conds),(3,bn nm),(4,aN w.vars),(5,aN w.facts),(6,aO w.ev)]):=by
 subst hw;subst hfr;exact Iz h1 h2 hn hsl hf hl
variable{LP:List Lp}
theorem FN{f:List Tm}{G:Gs}(hw:w0 f=w)(hn:0<SS.length)(hsl:SS.length≤1000)(hf:SS.getD 0 default=f)(hfl:f.length≤1000)(hbd:bd=t.d)(ih:pr L (ch E SS bd (.slc 1 (LP.map fun q=>[lE q])) (.slc 1 ((LP.map (·.r)).map fun r=>[fD r])) nm) (-1) w g (fD [.st t]) G):MQ h1 h2 48 [.c (.pt 0 0 0),eI (-1)] [(0,iB (ch E SS bd (.slc 1 (LP.map fun q=>[lE q])) (.slc 1 ((LP.map (·.r)).map fun r=>[fD r])) nm) g 1 2 3),(1,aY g.paths),(2,aW g.conds),(3,bn nm)] (bb (.tup []) (oF (ch E SS bd (.slc 1 (LP.map fun q=>[lE q])) (.slc 1 ((LP.map (·.r)).map fun r=>[fD r])) nm) G)):=by
 refine MC.shift 500 Z (MC.keep [500,503,510,511] (R:=.tup []) (bs:=[iB (ch E SS bd (.slc 1 (LP.map fun q=>[lE q])) (.slc 1 ((LP.map (·.r)).map fun r=>[fD r])) nm) G 510 511 503,bn nm,aY G.paths,aW G.conds]) Z Z (jH 45 [500,501,502,503] h1 h2 Tryz.func48 Z fun O hF=>?_))
 subst hbd
 refine b0 ?_
 refine ae (jx Z (aq ?_))
 refine jx Z (aq ?_)
 refine jn (af (rC [_,_,_,_,_,_,_] [aF,ag [0],ag [0,1],aF,pe [0,1,2,3] 0,pn [] 0 1,pe [0,1,2,3,4,5] 1] [4,6] 5 4 (.box [.d (.int .i64 0),.d .nils,.d .nils,.d .nils,.d .nils,.d (.int .i64 0)]) [_,_] [_] [[],[]] (kf Z Z Z (kf Z Z Z (kf Z Z Z (kf Z Z Z (ai (ai (aB (aI (ct O [500,501,502,503] (bin:=[iB (ch E SS t.d (.slc 1 (LP.map fun q=>[lE q])) (.slc 1 ((LP.map (·.r)).map fun r=>[fD r])) nm) g 1 2 3,aY g.paths,aW g.conds,bn nm]) Z Z Z Z (tb (E:=E) (SS:=SS) (bd:=t.d) (lo:=(.slc 1 (LP.map fun q=>[lE q]))) (be:=(.slc 1 ((LP.map (·.r)).map fun r=>[fD r]))) (nm:=nm) (g:=g) (n:=0) (f:=f) (w:=w) h1 h2 hw hn hsl hf hfl Z) Z Z Z Z Z (B0:=11000) Z Z Z Z Z Z)) (aI (ct O [500,501,502,503] (bin:=[iB (ch E SS t.d (.slc 1 (LP.map fun q=>[lE q])) (.slc 1 ((LP.map (·.r)).map fun r=>[fD r])) nm) g 1 2 3,aY g.paths,aW g.conds,bn nm]) Z Z Z Z (tb (E:=E) (SS:=SS) (bd:=t.d) (lo:=(.slc 1 (LP.map fun q=>[lE q]))) (be:=(.slc 1 ((LP.map (·.r)).map fun r=>[fD r]))) (nm:=nm) (g:=g) (n:=0) (f:=f) (w:=w) h1 h2 hw hn hsl hf hfl Z) Z Z Z Z Z (B0:=11000) Z Z Z Z Z Z))) Z) (ai (ai (ai (aI (Eff.alloc O Z Z Z Z Z Z)) Z) (ai (aI (Eff.alloc O Z Z Z Z Z Z)) Z)) (ai (ai (aB trivial (aI (eS Z Z Z))) Z) trivial))))))) ?_))
 refine jw [4,3,2,1] Z (b0 ?_)
 refine af (ae (ab Z (jn (ah Z (fun z12=>?_) (fun z12=>?_)))))
 refine af (jw [11,4,3,2,1] Z (kJ [_,_,_,_,_,_,_,_,_] [pn [] 0 1,pn [] 0 1,aF,ag [2],ag [2,3],ag [2,3,4],ag (rg 2 4),pe (rg 2 5) 0,pe (rg 0 8) 1] [7,8] [_,_,_] [[],[501,502,11004,11005,11006,20]] (ai (ka Z Z (kw Z Z)) (ai (ka Z Z (kw Z Z)) (ka Z Z (ka Z Z (ka Z Z (ka Z Z (ka Z Z (ai (ai (aI (Eff.box O Z Z Z Z Z Z Z Z)) Z) (ai (ai (cF O [500,501,502,503,11004,11005,11006,20] [501,502,11004,11005,11006,20] (bin:=[iB (ch E SS t.d (.slc 1 (LP.map fun q=>[lE q])) (.slc 1 ((LP.map (·.r)).map fun r=>[fD r])) nm) g 1 2 3,aY g.paths,aW g.conds,bn nm,aN w.vars,aN w.facts,aO w.ev,BW t.d (.int .i64 0) .nilp]) Z Z Z Z (xi ih) Z Z Z Z Z (B0:=22000) Z Z Z Z Z Z Z) Z) trivial))))))))) ?_))
 refine jw [11,4,3,2,1] Z (b0 ?_)
 refine ea ?_
 refine⟨.inl Z,_,(aa 22010 510 Z Z).trans (aa 22011 511 Z Z),_,Z,Z,Z⟩
 exact absurd z12 (by decide)
theorem FL{f:List Tm}{q:Lp}{Y N:Pw→Gs→Gs}(hw:w0 f=w)(hk:k<LP.length)(hq:LP.getD k default=q)(hn:k+1<SS.length)(hsl:SS.length≤1000)(hf:SS.getD (k+1) default=f)(hfl:f.length≤1000)(hs:q.s.sum.ok=true∧q.s.sum.xs.length≤4)(hkl:k≤1000)(hY:pq Y)(hN:pq N)
  (hy:(cS w (aR q.s.sum w.vars).1 (bk w q.s.sum g)).bad=false→pr L (ch E SS bd (.slc 1 (LP.map fun q=>[lE q])) (.slc 1 ((LP.map (·.r)).map fun r=>[fD r])) nm) (k:Nat) (w.fact (aR q.s.sum w.vars).1) (cS w (aR q.s.sum w.vars).1 (bk w q.s.sum g)) (fD [.st q.x,.lp k]) (Y (w.fact (aR q.s.sum w.vars).1) (cS w (aR q.s.sum w.vars).1 (bk w q.s.sum g)))) (hn2:(Y (w.fact (aR q.s.sum w.vars).1) (cS w (aR q.s.sum w.vars).1 (bk w q.s.sum g))).bad=false→pr L (ch E SS bd (.slc 1 (LP.map fun q=>[lE q])) (.slc 1 ((LP.map (·.r)).map fun r=>[fD r])) nm) (k:Nat) (w.fact (aX (aR q.s.sum w.vars).1).1) (Y (w.fact (aR q.s.sum w.vars).1) (cS w (aR q.s.sum w.vars).1 (bk w q.s.sum g))) (fD q.r) (N (w.fact (aX (aR q.s.sum w.vars).1).1) (Y (w.fact (aR q.s.sum w.vars).1) (cS w (aR q.s.sum w.vars).1 (bk w q.s.sum g))))) :
  MQ h1 h2 48 [.c (.pt 0 0 0),eI (k:Nat)] [(0,iB (ch E SS bd (.slc 1 (LP.map fun q=>[lE q])) (.slc 1 ((LP.map (·.r)).map fun r=>[fD r])) nm) g 1 2 3),(1,aY g.paths),(2,aW g.conds),(3,bn nm)] (bb (.tup []) (oF (ch E SS bd (.slc 1 (LP.map fun q=>[lE q])) (.slc 1 ((LP.map (·.r)).map fun r=>[fD r])) nm) (dT Y N w (aR q.s.sum w.vars).1 (bk w q.s.sum g)))):=by
 refine MC.shift 500 Z (MC.keep [500,503,510,511] (R:=.tup []) (bs:=[iB (ch E SS bd (.slc 1 (LP.map fun q=>[lE q])) (.slc 1 ((LP.map (·.r)).map fun r=>[fD r])) nm) (dT Y N w (aR q.s.sum w.vars).1 (bk w q.s.sum g)) 510 511 503,bn nm,aY (dT Y N w (aR q.s.sum w.vars).1 (bk w q.s.sum g)).paths,aW (dT Y N w (aR q.s.sum w.vars).1 (bk w q.s.sum g)).conds]) Z Z (jH 45 [500,501,502,503] h1 h2 Tryz.func48 Z fun O hF=>?_))
 have hv4:w.vars.length=4:=by rw[←hw];exact kj
 have hfw:w.facts.length≤1000:=by rw[←hw];exact hfl
 have hew:w.ev.length≤1000:=by rw[←hw];exact cT _
 have hva:=tl (w:=w) ⟨by rw[←hw];show∀t∈mN 4,t.ok=true;decide,by omega⟩ hv4
 refine b0 ?_
 refine ae (jx Z (aq ?_))
 refine jx Z (aq ?_)
 refine jn (af (rC [_,_,_,_,_,_,_] [aF,ag [0],ag [0,1],aF,pe [0,1,2,3] 0,pn [] 0 1,pe [0,1,2,3,4,5] 1] [4,6] 5 4 (.box [.d (.int .i64 0),.d .nils,.d .nils,.d .nils,.d .nils,.d (.int .i64 0)]) [_,_] [_] [[],[]] (kf Z Z Z (kf Z Z Z (kf Z Z Z (kf Z Z Z (ai (ai (aB (aI (ct O [500,501,502,503] (bin:=[iB (ch E SS bd (.slc 1 (LP.map fun q=>[lE q])) (.slc 1 ((LP.map (·.r)).map fun r=>[fD r])) nm) g 1 2 3,aY g.paths,aW g.conds,bn nm]) Z Z Z Z (tb (E:=E) (SS:=SS) (bd:=bd) (lo:=(.slc 1 (LP.map fun q=>[lE q]))) (be:=(.slc 1 ((LP.map (·.r)).map fun r=>[fD r]))) (nm:=nm) (g:=g) (n:=k+1) (f:=f) (w:=w) h1 h2 hw hn hsl hf hfl (by omega)) Z Z Z Z Z (B0:=11000) Z Z Z Z Z Z)) (aI (ct O [500,501,502,503] (bin:=[iB (ch E SS bd (.slc 1 (LP.map fun q=>[lE q])) (.slc 1 ((LP.map (·.r)).map fun r=>[fD r])) nm) g 1 2 3,aY g.paths,aW g.conds,bn nm]) Z Z Z Z (tb (E:=E) (SS:=SS) (bd:=bd) (lo:=(.slc 1 (LP.map fun q=>[lE q]))) (be:=(.slc 1 ((LP.map (·.r)).map fun r=>[fD r]))) (nm:=nm) (g:=g) (n:=k+1) (f:=f) (w:=w) h1 h2 hw hn hsl hf hfl (by omega)) Z Z Z Z Z (B0:=11000) Z Z Z Z Z Z))) Z) (ai (ai (ai (aI (Eff.alloc O Z Z Z Z Z Z)) Z) (ai (aI (Eff.alloc O Z Z Z Z Z Z)) Z)) (ai (ai (aB trivial (aI (eS Z Z Z))) Z) trivial))))))) ?_))
 refine jw [4,3,2,1] Z (b0 ?_)
 refine af (ae (ab Z (jn (ah Z (fun z12=>?_) (fun z12=>?_)))))
 exact absurd (bK z12) (by omega)
 refine aj (af (jw [11,4,3,2,1] Z (rC [_,_,_,_,_,_,_,_,_] [aF,ag [0],ag [0,1],ag [0,1,2],aF,ag [0,1,2,3,4],ag [0,1,2,3,4,5],aF,pe [0,1,2,3,4,5,6,7] 0] [8] 7 5 (.box [.d .nilp]) [_] [_] [] (kf Z Z Z (kf Z Z Z (kf Z Z Z (kf Z Z Z (kf Z Z Z (ai (ai (aB ((bf O Z Z Z Z Z Z Z Z (dO hk)).cast (v':=ptr [lE q]) (by rw[hq])) ((bf O Z Z Z Z Z Z Z Z (dO hk)).cast (v':=ptr [lE q]) (by rw[hq]))) Z) (kf Z Z Z (ai (ai (aI (Eff.alloc O Z Z Z Z Z Z)) Z) (ai (ai (aB trivial (aI (eS Z Z Z))) Z) trivial))))))))) ?_)))
 refine jw [5,11,4,3,2,1] Z (b0 ?_)
 have hrr:(LP.map (·.r)).getD k default=q.r:=by rw[←hq];simp[List.getD_eq_getElem?_getD,hk]
 have hT:=FG (c:=(ch E SS bd (.slc 1 (LP.map fun q=>[lE q])) (.slc 1 ((LP.map (·.r)).map fun r=>[fD r])) nm)) (g:=(bk w q.s.sum g)) (frm:=(k:Nat)) (w:=w) (t:=(aR q.s.sum w.vars).1) (d8:=lE q) (d9:=.int .i64 (k:Nat)) (Y:=Y) (N:=N) h1 h2 hY hN fo (by omega) hfw hew (fun h=>Iy h1 h2 (hy h)) (fun h=>Ix (d8:=lE q) h1 h2 (k:=k) (by rw[bQ];exact hk) hrr (hn2 h))
 refine kJ [_,_,_,_,_,_,_,_,_,_,_,_,_,_,_,_] [pn [] 0 1,pn [0] 0 1,pn [0,1] 0 1,pn [] 0 1,aF,ag [4],ag [4,5],aF,ag [7],ag [7,8],ag [7,8,9],ag (rg 7 4),pe (rg 4 8) 0,pn [] 0 1,pn [] 0 1,pe (rg 0 15) 1] [12,15] [_,[(2,pB 500),(3,xB (.int .i64 (k:Nat))),(5,xB (lE q)),(500,iB (ch E SS bd (.slc 1 (LP.map fun q=>[lE q])) (.slc 1 ((LP.map (·.r)).map fun r=>[fD r])) nm) (bk w q.s.sum g) 501 502 503),(501,aY (bk w q.s.sum g).paths),(502,aW (bk w q.s.sum g).conds),(503,bn nm),(4,iW (k:Nat) w 11004 11005 11006),(11004,aN w.vars),(11005,aN w.facts),(11006,aO w.ev)],_] [[],[501,502,11004,11005,11006]] (ai (ka Z Z (kw Z Z)) (ai (ka Z Z (kw Z Z)) (ai (ka Z Z (kw Z Z)) (ai (ka Z Z (kw Z Z)) (ka Z Z (ka Z Z (ka Z Z (ka Z Z (ka Z Z (ka Z Z (ka Z Z (ka Z Z (ai (ai (aI (ct O [500,501,502,503,4,11004,11005,11006] (bin:=[iB (ch E SS bd (.slc 1 (LP.map fun q=>[lE q])) (.slc 1 ((LP.map (·.r)).map fun r=>[fD r])) nm) g 1 2 3,aY g.paths,aW g.conds,bn nm,iW (k:Nat) w 5 6 7,aN w.vars,aN w.facts,aO w.ev]) Z Z Z Z (oN (c:=(ch E SS bd (.slc 1 (LP.map fun q=>[lE q])) (.slc 1 ((LP.map (·.r)).map fun r=>[fD r])) nm)) (g:=g) (frm:=(k:Nat)) (w:=w) (t:=q.s.sum) h1 h2 hs.1 hva (by have:=hs.2;omega)) Z Z Z Z Z (B0:=42000) Z Z Z Z Z Z)) Z) (ai (ka Z Z (kw Z Z)) (ai (ka Z Z (kw Z Z)) (ai (ai (cF O [500,501,502,503,11004,11005,11006,2,5,3] [501,502,11004,11005,11006] (bin:=[iB (ch E SS bd (.slc 1 (LP.map fun q=>[lE q])) (.slc 1 ((LP.map (·.r)).map fun r=>[fD r])) nm) (bk w q.s.sum g) 1 2 3,aY (bk w q.s.sum g).paths,aW (bk w q.s.sum g).conds,bn nm,aN w.vars,aN w.facts,aO w.ev,pB 0,xB (lE q),xB (.int .i64 (k:Nat))]) Z Z Z Z (hT) Z Z Z Z Z (B0:=45000) Z Z Z Z Z Z Z) Z) trivial)))))))))))))))) ?_
 show _∧_
 refine GN ?_
 refine⟨.inr Z,_,(aa 45010 510 Z Z).trans (aa 45011 511 Z Z),_,Z,Z,Z⟩
abbrev yg(p:Pm)(t:Tr):Pc:=ch (t2 p.body p.post) (p.pre::(kD t).lp.map (·.s.facts)) t.d (.slc 1 ((kD t).lp.map fun q=>[lE q])) (.slc 1 (((kD t).lp.map (·.r)).map fun r=>[fD r])) (kD t).nm
abbrev D8(p:Pm)(t:Tr)(g:Gs):List (Nat×B):=[(0,iB (yg p t) g 1 2 3),(1,aY g.paths),(2,aW g.conds),(3,bn (kD t).nm)]
abbrev BT(p:Pm)(t:Tr)(g:Gs):List (Nat×B):=[(0,iB (yg p t) g 10 11 3),(3,bn (kD t).nm),(10,aY g.paths),(11,aW g.conds)]
variable{p:Pm}
theorem AJ(hp:gL p=true)(htd:BR p.body=t.d)(ht:PtOk p t):MQ h1 h2 46 [kK p] [] (bb (.tup [.c (.pt 0 0 0),eB true]) (D8 p t g0)):=by
 refine MC.shift 500 Z (MC.keep [500,501,502,503] (bs:=[iB (yg p t) g0 501 502 503,aY [],aW [],bn (kD t).nm]) Z Z (jB 30 h1 h2 Tryz.func46 Z fun O hF=>?_))
 have hfd:=rQ (L:=L) h1 h2 ht.tree (r:=[]) (c:=⟨[],[]⟩) (by have:=ht.nodes;show 0+_≤_;omega) (post:=fC p.post) (bd:=t.d) (pre:=p.pre)
 refine ae (jx Z (aq ?_))
 refine ar (Ent.freeze 1 (e':=[(1,_),(0,_)]) Z (.cons Z (.c (.box (cs:=Pm.data p) Z (aE Z))) (fe [0] Z)) (.skip .nil)) ?_
 refine aq ?_
 refine ab Z (jn (af (ae (js Z (bP Z ((Hi (p:=p) h1 h2).plain (u:=eB true) (by rw[hp])) 9000 Z (js Z (jn (ah Z (fun z9=>?_) (fun z9=>?_)))))))))
 cases z9
 refine aj (ae (ab Z (an O Z Z Z Z (Ep h1 h2) (ac Z) Z Z Z Z (B0:=14000) Z Z ?_)))
 rw[htd]
 refine az Z (js Z (ba (az Z (aU (bp O Z Z Z Z Z Z Z Z Z Z Z) Z (aq ?_)))))
 refine ab Z (aU (HS.makeMap O Z Z Z Z) Z (aq ?_))
 refine aq ?_
 refine js Z (jx Z (aq ?_))
 refine js Z (ba (ab Z (ar (cz 25 902 1 false 6 Z Z Z) (aq ?_))))
 refine ar (cz 25 903 1 false 7 Z Z Z) (aq ?_)
 refine au O [25,20,902,903,23] (bin:=[zB (fC p.post) t.d ⟨[],[]⟩ 1 2 3 4,zf p.pre ⟨[],[]⟩,zh ⟨[],[]⟩,zj ⟨[],[]⟩,bn []]) Z Z Z Z (hfd.1) Z Z Z Z Z Z (B0:=29000) Z Z (aq ?_)
 refine ba (ar (Ent.freeze 29010 (e':=[(6,_)]) Z (fe [6] Z) (.cons Z (.box (dw Z (.cons (.row Z (by simp)) (fk Z)))) (.cons Z .map (.skip (bh Z (bh Z .nil)))))) ?_)
 refine ar (Ent.freeze 29011 (e':=[(6,_)]) Z (fe [6] Z) (.cons Z (.box (dw Z (dw Z (dw Z (dw Z (dw Z (dw Z (.cons (.row Z (by simp)) (fk Z))))))))) (.cons Z .map (.skip (bh Z .nil))))) ?_
 refine ar (Ent.freeze 29012 (e':=[(6,_)]) Z (fe [6] Z) (.cons Z (.box (dw Z (dw Z (dw Z (dw Z (dw Z (dw Z (dw Z (.cons (.row Z (by simp)) (fk Z)))))))))) (.cons Z .map (.skip .nil)))) ?_
 refine ar (cz 25 901 5 true 2 Z Z Z) (aq ?_)
 refine ar (cz 25 904 3 true 3 Z Z Z) (aq ?_)
 refine aH Z (jr ?_)
 refine⟨.inl Z,_,(((aa 25 500 Z Z).trans (aa 901 501 Z Z)).trans (aa 904 502 Z Z)).trans (aa 23 503 Z Z),_,Z,Z,Z⟩
theorem tM{al:Nat→Gs}(h: ∀i,(al i).bad=true→al (i+1)=al i){i:Nat}(hb:(al i).bad=true): ∀{n:Nat},i≤n→al n=al i:=fun{n} hn=>by
 induction n with
 | zero=>
  obtain rfl:i=0:=by omega
  rfl
 | succ n ih=>
  rcases Nat.lt_or_ge n i with h1|h1
  obtain rfl:i=n+1:=by omega
  rfl
  have:=ih h1
  rw[h n (by rw[this];exact hb),this]
theorem FO{k:Int}{al:Nat→Gs}(hl:(p.pre::(kD t).lp.map (·.s.facts)).length≤1000)(hst: ∀i,(al i).bad=true→al (i+1)=al i)(h0:(al 0).bad=false)(hal: ∀i:Nat,i<(p.pre::(kD t).lp.map (·.s.facts)).length→(al i).bad=false→MQ h1 h2 48 [.c (.pt 0 0 0),eI ((i:Int)-1)] (D8 p t (al i)) (bb (.tup []) (BT p t (al (i+1))))):MQ h1 h2 47 [.c (.pt 0 0 0),eB true,eI k,.c (.fb 48 [.pt 0 0 0])] (D8 p t (al 0)) (bb (eB (!(al (p.pre::(kD t).lp.map (·.s.facts)).length).bad)) (BT p t (al (p.pre::(kD t).lp.map (·.s.facts)).length))):=by
 refine MC.shift 500 Z (MC.keep [500,503,510,511] (R:=eB (!(al (p.pre::(kD t).lp.map (·.s.facts)).length).bad)) (bs:=[iB (yg p t) (al (p.pre::(kD t).lp.map (·.s.facts)).length) 510 511 503,bn (kD t).nm,aY (al (p.pre::(kD t).lp.map (·.s.facts)).length).paths,aW (al (p.pre::(kD t).lp.map (·.s.facts)).length).conds]) Z Z (jH 41 [500,501,502,503] h1 h2 Tryz.func47 Z fun O hF=>?_))
 refine b0 ?_
 refine ae (js Z (jn (af (ae (ab Z (jn (ah Z (fun z11=>?_) (fun z11=>?_))))))))
 cases z11
 refine aj (af (ae (az Z (dh Z (js Z (jn (ao (aw (X:=Nat) (fun i=>⟨[(0,.c (.pt 500 0 0)),(3,.c (.fb 48 [.pt 500 0 0])),(28,eI ((p.pre::(kD t).lp.map (·.s.facts)).length:Nat)),(29,eI i)],[(500,iB (yg p t) (al i) 901 902 503),(503,bn (kD t).nm),(901,aY (al i).paths),(902,aW (al i).conds)]⟩) (fun i=>i≤(p.pre::(kD t).lp.map (·.s.facts)).length∧(al i).bad=false) (fun i=>(p.pre::(kD t).lp.map (·.s.facts)).length-i) 0 ((((am [500,503,501,502] (e':=[(0,_),(3,_),(28,_),(29,_)]) Z Z ⟨Z,Z,Z,Z,ap⟩ Z).trans (aa 501 901 Z Z)).trans (aa 502 902 Z Z)).trans (Ent.to ⟨Z,Z,Z,Z,ap⟩ Z)) ?_ (fun i hi=>?_)))))))))
 exact⟨cT _,h0⟩
 refine ae (js Z (jn (af (ah Z (fun z30=>?_) (fun z30=>?_)))))
 refine aj (af (ao (ae (ab Z (ba (ab Z (ji Z (ze O [500,901,902,503] (bin:=[iB (yg p t) (al i) 1 2 3,aY (al i).paths,aW (al i).conds,bn (kD t).nm]) Z Z Z Z (hal i (by have:=bK z30;omega) hi.2) Z Z Z Z Z Z (B0:=36000) Z Z (aq ?_)))))))))
 refine ba (az Z (jn (ah Z (fun z39=>?_) (fun z39=>?_))))
 refine ae (js Z (jr ?_))
 have e:=tM hst (show(al (i+1)).bad=true from z39) (n:=(p.pre::(kD t).lp.map (·.s.facts)).length) (by have:=bK z30;omega)
 rw[e]
 refine⟨.inl Z,_,(aa 36010 510 Z Z).trans (aa 36011 511 Z Z),_,Z,by rw[show(al (i+1)).bad=true from z39];rfl,Z⟩
 refine aj (ak (ji Z (js Z (jn ?_))))
 refine⟨i+1,(((am [500,503,36010,36011] (e':=[(0,_),(3,_),(28,_),(29,_)]) Z Z ⟨Z,Z,Z,Z,ap⟩ Z).trans (aa 36010 901 Z Z)).trans (aa 36011 902 Z Z)).trans (Ent.to ⟨Z,Z,Z,Z,ap⟩ Z),⟨by have:=bK z30;omega,z39⟩,by have:=bK z30;omega⟩
 refine bg (ae (js Z (jr ?_)))
 obtain rfl:i=(p.pre::(kD t).lp.map (·.s.facts)).length:=by have:=cu z30;omega
 refine⟨.inl Z,_,(aa 901 510 Z Z).trans (aa 902 511 Z Z),_,Z,by rw[hi.2];rfl,Z⟩
theorem F7(hl:g.conds.length≤L)(hc:im g.conds=true):MQ h1 h2 33 [.c (.pt 0 0 0)] [(0,iB c g 1 2 3),(1,aY g.paths),(2,aW g.conds),(3,bn c.num)] (bb (.tup [.c (.rs 2 0 g.conds.length),eB true]) [(0,iB c g 1 2 3),(1,aY g.paths),(2,aW g.conds),(3,bn c.num)]):=by
 refine MC.shift 500 Z (MC.keep [500,501,502,503] (bs:=[iB c g 501 502 503,aY g.paths,aW g.conds,bn c.num]) Z Z (jH 29 [500,501,502,503] h1 h2 Tryz.func33 Z fun O hF=>?_))
 refine b0 ?_
 have hall: ∀i,i<g.conds.length→dW (g.conds.getD i default)=true:=fun i hi=>by rw[aD hi];exact List.all_eq_true.1 (Bool.and_eq_true_iff.1 hc).1 _ (List.getElem_mem hi)
 refine ae (ab Z (jn (af (ae (az Z (dv Z Z (js Z (jn (ah Z (fun z11=>?_) (fun z11=>?_))))))))))
 exact absurd (bK z11) (by have:=(Bool.and_eq_true_iff.1 hc).2;have:=bK this;omega)
 refine aj (af (ae (az Z (dv Z Z (js Z (jn (ao (aw (X:=Nat) (fun i=>⟨[(0,.c (.pt 500 0 0)),(15,.c (.rs 502 0 g.conds.length)),(16,eI g.conds.length),(17,eI i)],[(500,iB c g 501 502 503),(501,aY g.paths),(502,aW g.conds),(503,bn c.num)]⟩) (fun i=>i≤g.conds.length∧∀j (h:j<g.conds.length),j<i→dW g.conds[j]=true) (fun i=>g.conds.length-i) 0 (Ent.to ⟨Z,Z,Z,Z,ap⟩ Z) ?_ (fun i hi=>?_)))))))))
 exact⟨cT _,fun j h hj=>absurd hj (Nat.not_lt_zero j)⟩
 refine ae (js Z (jn (af (ah Z (fun z18=>?_) (fun z18=>?_)))))
 refine aj (af (ao (ae ?_)))
 have hil:i<g.conds.length:=by have:=bK z18;omega
 have hRi:(g.conds.map Sq.cells)[0+(i:Int).toNat]? = some (Sq.cells (g.conds.getD i default)):=by rw[Int.toNat_natCast,Nat.zero_add,List.getElem?_map,aD hil,List.getElem?_eq_getElem hil];rfl
 refine dv Z Z (av (bt O (ex:=Sq.cells (g.conds.getD i default)) Z Z Z Z hRi Z) Z (jl Z (aq ?_)))
 refine jo Z (aq ?_)
 refine ba (js Z (du O Z Z Z Z (Cb (s:=(g.conds.getD i default)) h1 h2) (.cons (.agg (.cons (.rp Z hRi Z) (.cons .d (.cons (.rp Z hRi Z) .nil)))) .nil) Z Z Z Z Z (B0:=23000) Z (js Z (jn (ah Z (fun z23=>?_) (fun z23=>?_))))))
 exact absurd z23 (by rw[hall i (by have:=bK z18;omega)];decide)
 refine aj (ak (ji Z (js Z (jn ?_))))
 refine⟨i+1,(am [500,501,502,503] (e':=[(0,_),(15,_),(16,_),(17,_)]) Z Z ⟨Z,Z,Z,Z,ap⟩ Z).trans (Ent.to ⟨Z,Z,Z,Z,ap⟩ Z),⟨by have:=bK z18;omega,fun j h hj=>?_⟩,by have:=bK z18;omega⟩
 by_cases e:j=i
 subst e;rw[aD h]at z23;simpa using z23
 exact hi.2 j h (by omega)
 refine bg (ae (az Z (ab Z (jr ?_))))
 refine⟨.inl Z,_,am [500,501,502,503] (e':=[(2,_),(3,_)]) Z Z ⟨Z,Z,ap⟩ Z,_,Z,Z,Z⟩
theorem F8(hl:g.conds.length≤L)(hc:im g.conds=false):MQ h1 h2 33 [.c (.pt 0 0 0)] [(0,iB c g 1 2 3),(1,aY g.paths),(2,aW g.conds),(3,bn c.num)] (bb (.tup [.c (.d .nils),eB false]) [(0,iB c g 1 2 3),(1,aY g.paths),(2,aW g.conds),(3,bn c.num)]):=by
 refine MC.shift 500 Z (MC.keep [500,501,502,503] (bs:=[iB c g 501 502 503,aY g.paths,aW g.conds,bn c.num]) Z Z (jH 29 [500,501,502,503] h1 h2 Tryz.func33 Z fun O hF=>?_))
 refine b0 ?_
 refine ae (ab Z (jn (af (ae (az Z (dv Z Z (js Z (jn (ah Z (fun z11=>?_) (fun z11=>?_))))))))))
 refine ae (ab Z (jr ?_))
 refine⟨.inl Z,_,am [500,501,502,503] (e':=[(2,_),(3,_)]) Z Z ⟨Z,Z,ap⟩ Z,_,Z,Z,Z⟩
 refine aj (af (ae (az Z (dv Z Z (js Z (jn (ao (aw (X:=Nat) (fun i=>⟨[(0,.c (.pt 500 0 0)),(15,.c (.rs 502 0 g.conds.length)),(16,eI g.conds.length),(17,eI i)],[(500,iB c g 501 502 503),(501,aY g.paths),(502,aW g.conds),(503,bn c.num)]⟩) (fun i=>i≤g.conds.length∧∀j (h:j<g.conds.length),j<i→dW g.conds[j]=true) (fun i=>g.conds.length-i) 0 (Ent.to ⟨Z,Z,Z,Z,ap⟩ Z) ?_ (fun i hi=>?_)))))))))
 exact⟨cT _,fun j h hj=>absurd hj (Nat.not_lt_zero j)⟩
 refine ae (js Z (jn (af (ah Z (fun z18=>?_) (fun z18=>?_)))))
 refine aj (af (ao (ae ?_)))
 have hil:i<g.conds.length:=by have:=bK z18;omega
 have hRi:(g.conds.map Sq.cells)[0+(i:Int).toNat]? = some (Sq.cells (g.conds.getD i default)):=by rw[Int.toNat_natCast,Nat.zero_add,List.getElem?_map,aD hil,List.getElem?_eq_getElem hil];rfl
 refine dv Z Z (av (bt O (ex:=Sq.cells (g.conds.getD i default)) Z Z Z Z hRi Z) Z (jl Z (aq ?_)))
 refine jo Z (aq ?_)
 refine ba (js Z (du O Z Z Z Z (Cb (s:=(g.conds.getD i default)) h1 h2) (.cons (.agg (.cons (.rp Z hRi Z) (.cons .d (.cons (.rp Z hRi Z) .nil)))) .nil) Z Z Z Z Z (B0:=23000) Z (js Z (jn (ah Z (fun z23=>?_) (fun z23=>?_))))))
 refine ae (ab Z (jr ?_))
 refine⟨.inl Z,_,am [500,501,502,503] (e':=[(2,_),(3,_)]) Z Z ⟨Z,Z,ap⟩ Z,_,Z,Z,Z⟩
 refine aj (ak (ji Z (js Z (jn ?_))))
 refine⟨i+1,(am [500,501,502,503] (e':=[(0,_),(15,_),(16,_),(17,_)]) Z Z ⟨Z,Z,Z,Z,ap⟩ Z).trans (Ent.to ⟨Z,Z,Z,Z,ap⟩ Z),⟨by have:=bK z18;omega,fun j h hj=>?_⟩,by have:=bK z18;omega⟩
 by_cases e:j=i
 subst e;rw[aD h]at z23;simpa using z23
 exact hi.2 j h (by omega)
 refine bg (ae (az Z (ab Z (jr ?_))))
 exfalso
 have hall:=ki (p:=dW) (fun j hj=>hi.2 j hj (by have:=cu z18;omega))
 unfold im at hc
 rw[hall,Bool.true_and]at hc
 exact absurd (cu hc) (by have:=cu z11;omega)
theorem F9{all:Bool}{k:Int}(hp:gL p=true)(htd:BR p.body=t.d)(ht:PtOk p t)(hg:MQ h1 h2 47 [.c (.pt 0 0 0),eB all,eI k,.c (.fb 48 [.pt 0 0 0])] (D8 p t g0) (bb (eB true) (BT p t g))):MQ h1 h2 26 [kK p,eB all,eI k] [] (bb (.tup [.c (.pt 0 0 0),eB true]) (BT p t g)):=by
 refine MC.shift 500 Z (MC.keep [500,503,510,511] (bs:=[iB (yg p t) g 510 511 503,bn (kD t).nm,aY g.paths,aW g.conds]) Z Z (jB 29 h1 h2 Tryz.func26 Z fun O hF=>?_))
 refine ae (jx Z (aq ?_))
 refine ar (Ent.freeze 3 (e':=[(3,_),(0,_),(1,_),(2,_)]) Z (.cons Z (.c (.box (cs:=Pm.data p) Z (aE Z))) (fe [0,1,2] Z)) (.skip .nil)) ?_
 refine aq ?_
 refine ab Z (ba (js Z (au O [] (bin:=[]) Z Z Z Z (AJ (p:=p) (t:=t) h1 h2 hp htd ht) Z Z Z Z Z Z (B0:=13000) Z Z (aq ?_))))
 refine az Z (js Z (jn (af (ae (aH Z (bq Z (js Z (bq Z (js Z (bq Z (js Z (bq Z (js Z (bq Z (js Z (bq Z (js Z (bq Z (av (ro O Z Z Z Z Z) Z (bq Z (au O [13000,13001,13002,13003] (bin:=[iB (yg p t) g0 1 2 3,aY [],aW [],bn (kD t).nm]) Z Z Z Z (hg) Z Z Z Z Z Z (B0:=26000) Z Z (aq ?_))))))))))))))))))))))
 refine bq Z (js Z (av (aG O Z Z Z Z Z) Z (jn (ah Z (fun z27=>?_) (fun z27=>?_)))))
 exact absurd z27 (by decide)
 refine aj (ae (aH Z (jr ?_)))
 refine⟨.inl Z,_,(((aa 13000 500 Z Z).trans (aa 13003 503 Z Z)).trans (aa 26010 510 Z Z)).trans (aa 26011 511 Z Z),_,Z,Z,Z⟩
theorem Ga{all:Bool}{k:Int}(hp:gL p=true)(htd:BR p.body=t.d)(ht:PtOk p t)(hg:MQ h1 h2 47 [.c (.pt 0 0 0),eB all,eI k,.c (.fb 48 [.pt 0 0 0])] (D8 p t g0) (bb (eB false) (BT p t g))):MQ h1 h2 26 [kK p,eB all,eI k] [] (Plain (.tup [.c (.d .nilp),eB false])):=by
 refine MC.data (jB 29 h1 h2 Tryz.func26 Z fun O hF=>?_)
 refine ae (jx Z (aq ?_))
 refine ar (Ent.freeze 3 (e':=[(3,_),(0,_),(1,_),(2,_)]) Z (.cons Z (.c (.box (cs:=Pm.data p) Z (aE Z))) (fe [0,1,2] Z)) (.skip .nil)) ?_
 refine aq ?_
 refine ab Z (ba (js Z (au O [] (bin:=[]) Z Z Z Z (AJ (p:=p) (t:=t) h1 h2 hp htd ht) Z Z Z Z Z Z (B0:=13000) Z Z (aq ?_))))
 refine az Z (js Z (jn (af (ae (aH Z (bq Z (js Z (bq Z (js Z (bq Z (js Z (bq Z (js Z (bq Z (js Z (bq Z (js Z (bq Z (av (ro O Z Z Z Z Z) Z (bq Z (au O [13000,13001,13002,13003] (bin:=[iB (yg p t) g0 1 2 3,aY [],aW [],bn (kD t).nm]) Z Z Z Z (hg) Z Z Z Z Z Z (B0:=26000) Z Z (aq ?_))))))))))))))))))))))
 refine bq Z (js Z (av (aG O Z Z Z Z Z) Z (jn (ah Z (fun z27=>?_) (fun z27=>?_)))))
 refine ae (ab Z (jr ?_))
 refine aJ Z ?_
 exact .tup (.cons (.c .d) (.cons (.c .d) .nil))
 exact absurd z27 (by decide)
theorem Gd(hP:MQ h1 h2 26 [kK p,eB true,eI 0] [] (bb (.tup [.c (.pt 0 0 0),eB true]) (BT p t g)))(hl:g.conds.length≤L)(hc:im g.conds=true):MQ h1 h2 15 [kK p] [] (Rows (.tup [.c (.rs 0 0 g.conds.length),eB true]) [aW g.conds]):=by
 refine cH (jB 19 h1 h2 Tryz.func15 Z fun O hF=>?_)
 refine ae (jx Z (aq ?_))
 refine ar (Ent.freeze 1 (e':=[(1,_),(0,_)]) Z (.cons Z (.c (.box (cs:=Pm.data p) Z (aE Z))) (fe [0] Z)) (.skip .nil)) ?_
 refine aq ?_
 refine ab Z (ba (js Z (au O [] (bin:=[]) Z Z Z Z (hP) Z Z Z Z Z Z (B0:=9000) Z Z (aq ?_))))
 refine az Z (js Z (jn (af (ae (ab Z (jn (ah Z (fun z12=>?_) (fun z12=>?_))))))))
 exact absurd z12 (by decide)
 refine aj (ae (aH Z (au O [9000,9010,9011,9003] (bin:=[iB (yg p t) g 1 2 3,aY g.paths,aW g.conds,bn (kD t).nm]) Z Z Z Z (F7 (c:=yg p t) (g:=g) h1 h2 hl hc) Z Z Z Z Z Z (B0:=17000) Z Z (aq ?_))))
 refine az Z (jr ?_)
 refine⟨.inl Z,_,b9,_,Z,[9011],by decide,Z,Z,Z⟩
theorem Ge(hP:MQ h1 h2 26 [kK p,eB true,eI 0] [] (bb (.tup [.c (.pt 0 0 0),eB true]) (BT p t g)))(hl:g.conds.length≤L)(hc:im g.conds=false):MQ h1 h2 15 [kK p] [] (Rows (.tup [.c (.d .nils),eB false]) []):=by
 refine cH (jB 19 h1 h2 Tryz.func15 Z fun O hF=>?_)
 refine ae (jx Z (aq ?_))
 refine ar (Ent.freeze 1 (e':=[(1,_),(0,_)]) Z (.cons Z (.c (.box (cs:=Pm.data p) Z (aE Z))) (fe [0] Z)) (.skip .nil)) ?_
 refine aq ?_
 refine ab Z (ba (js Z (au O [] (bin:=[]) Z Z Z Z (hP) Z Z Z Z Z Z (B0:=9000) Z Z (aq ?_))))
 refine az Z (js Z (jn (af (ae (ab Z (jn (ah Z (fun z12=>?_) (fun z12=>?_))))))))
 exact absurd z12 (by decide)
 refine aj (ae (aH Z (au O [9000,9010,9011,9003] (bin:=[iB (yg p t) g 1 2 3,aY g.paths,aW g.conds,bn (kD t).nm]) Z Z Z Z (F8 (c:=yg p t) (g:=g) h1 h2 hl hc) Z Z Z Z Z Z (B0:=17000) Z Z (aq ?_))))
 refine az Z (jr ?_)
 refine⟨.inl Z,_,b9,_,Z,[],by decide,Z,Z,Z⟩
theorem Gf(hP:MQ h1 h2 26 [kK p,eB true,eI 0] [] (Plain (.tup [.c (.d .nilp),eB false]))):MQ h1 h2 15 [kK p] [] (Rows (.tup [.c (.d .nils),eB false]) []):=by
 refine cH (jB 19 h1 h2 Tryz.func15 Z fun O hF=>?_)
 refine ae (jx Z (aq ?_))
 refine ar (Ent.freeze 1 (e':=[(1,_),(0,_)]) Z (.cons Z (.c (.box (cs:=Pm.data p) Z (aE Z))) (fe [0] Z)) (.skip .nil)) ?_
 refine aq ?_
 refine ab Z (ba (js Z (an O Z Z Z Z (hP) (ac Z) Z Z Z Z (B0:=9000) Z Z (az Z (js Z (jn (af (ae (ab Z (jn (ah Z (fun z12=>?_) (fun z12=>?_))))))))))))
 refine ae (ab Z (jr ?_))
 refine⟨.inl Z,_,b9,_,Z,[],by decide,Z,Z,Z⟩
 exact absurd z12 (by decide)
theorem xM{t:Tm}:bH t=if(io [⟨7,[]⟩,t] [1,-1]).ok=true then(io [⟨7,[]⟩,t] [1,-1],true)else(⟨0,[]⟩,false):=by
 unfold bH yi mf
 have h1:(1*(⟨7,[]⟩:Tm).c+ -1*t.c)=bD Tm.c [⟨7,[]⟩,t] [1,-1]:=by
  simp only[bD]<;>omega
 have h2:mg ⟨7,[]⟩ 1 t (-1)=bU [⟨7,[]⟩,t] [1,-1]:=by
  unfold mg bU
  apply List.map_congr_left
  intro k _
  simp only[bD,kb]<;>omega
 rw[h1,h2]
theorem zR:LaEq bT bH:=by
 refine⟨fun t _=>?_,fun t _ h=>?_⟩
 rw[xM];unfold bT;dsimp only
 cases h:(io [⟨7,[]⟩,t] [1,-1]).ok<;>simp
 have h:(io [⟨7,[]⟩,t] [1,-1]).ok=true:=h
 rw[xM,if_pos h];rfl
structure Sim(P:List Pth)(C:List Sq)(g h:Gs):Prop where
  ok:g.bad=false→h.bad=false∧g.paths=P++h.paths∧g.conds=C++h.conds∧g.paths.length≤200
  bad:g.bad=true→h.bad=true∨200<P.length+h.paths.length
theorem Sim.flag{P C g h}(s:Sim P C g h){b:Bool}:Sim P C (g.flag b) (h.flag b):=by
 refine⟨fun e=>?_,fun e=>?_⟩
 simp only[Gs.flag,Bool.or_eq_false_iff]at e ⊢
 have:=s.ok e.1
 exact⟨⟨this.1,e.2⟩,this.2⟩
 simp only[Gs.flag,Bool.or_eq_true]at e ⊢
 rcases e with e|e
 exact(s.bad e).imp .inl id
 exact .inl (.inr e)
theorem Sim.goal{P C g h}(s:Sim P C g h){w:Pw}{t:Tm}:Sim P C (g.goal w t) (h.goal w t):=
  ⟨fun e=>by
 have:=s.ok e
 exact⟨this.1,this.2.1,by simp only[Gs.goal,this.2.2.1,gF],this.2.2.2⟩,fun e=>s.bad e⟩
theorem Sim.path{P C g h}(s:Sim P C g h){frm:Int}{w:Pw}{to:Int}:Sim P C (jL frm w to g) (jL frm w to h):=by
 refine⟨fun e=>?_,fun e=>?_⟩
 simp only[jL,Bool.or_eq_false_iff,decide_eq_false_iff_not]at e ⊢
 have:=s.ok e.1
 have hl:=congrArg List.length this.2.1
 rw[cG]at hl
 refine⟨⟨this.1,by omega⟩,by rw[this.2.1,gF],this.2.2.1,?_⟩
 rw[cG,dL];omega
 simp only[jL,Bool.or_eq_true,decide_eq_true_eq]at e ⊢
 rw[cG,dL]
 cases hb:g.bad with
 | true=>
  rcases s.bad hb with h1|h1
  exact .inl (.inl h1)
  exact .inr (by omega)
 | false=>
  have:=s.ok hb
  have hl:=congrArg List.length this.2.1
  rw[cG]at hl
  rcases e with e|e
  rw[hb]at e;cases e
  exact .inr (by omega)
theorem Sim.fold{P C}{w:Pw}: ∀{fs:List Tm} {g h:Gs},Sim P C g h→Sim P C (fs.foldl (bE w) g) (fs.foldl (bE w) h)
 | [],g,h,s=>s
 | t::fs,g,h,s=>Sim.fold (fs:=fs) (s.flag.goal:Sim P C (bE w g t) (bE w h t))
theorem Sim.end{P C g h}(s:Sim P C g h){frm:Int}{w:Pw}{to:Int}{fs:List Tm}:Sim P C (dP frm w to fs g) (dP frm w to fs h):=s.fold.path
theorem Sim.cell{la:dM}{P C g h}(s:Sim P C g h){w:Pw}{t:Tm}:Sim P C (cy la w t g) (cy la w t h):=s.flag.goal.flag.goal
theorem Sim.leaf{la:dM}{P C g h}(s:Sim P C g h){m:Sm}{w:Pw}:(cd la m w g).1=(cd la m w h).1∧Sim P C (cd la m w g).2 (cd la m w h).2:=by
 unfold cd
 split
 exact⟨Z,s.flag⟩
 split
 split
 exact⟨Z,s.cell.flag⟩
 exact⟨Z,s.cell⟩
 split
 exact⟨Z,s.cell⟩
 split
 exact⟨Z,s⟩
 split
 exact⟨Z,s.flag.goal.flag⟩
 exact⟨Z,s⟩
def Grow(g h:Gs):Prop:=g.paths.length≤h.paths.length∧(g.bad=true→h.bad=true)
theorem Grow.refl{g:Gs}:Grow g g:=⟨da _,id⟩
theorem Grow.trans{g h k:Gs}(a:Grow g h)(b:Grow h k):Grow g k:=⟨Nat.le_trans a.1 b.1,fun e=>b.2 (a.2 e)⟩
theorem Grow.flag{g:Gs}{b:Bool}:Grow g (g.flag b):=⟨da _,fun e=>by simp[Gs.flag,e]⟩
theorem Grow.goal{g:Gs}{w:Pw}{t:Tm}:Grow g (g.goal w t):=⟨da _,id⟩
theorem Grow.end{g:Gs}{frm:Int}{w:Pw}{to:Int}{fs:List Tm}:Grow g (dP frm w to fs g):=
  ⟨by
    have h3:=congrArg List.length (iJ (fs:=fs) (w:=w) (g:=g))
    simp only[dP,jL,cG,dL];omega,fun e=>CY e⟩
theorem Grow.leaf{la:dM}{g:Gs}{m:Sm}{w:Pw}:Grow g (cd la m w g).2:=by
 unfold cd
 split
 exact .flag
 split
 split
 exact((Grow.flag.trans .goal).trans .flag).trans (Grow.goal.trans .flag)
 exact((Grow.flag.trans .goal).trans .flag).trans .goal
 split
 exact((Grow.flag.trans .goal).trans .flag).trans .goal
 split
 exact .refl
 split
 exact(Grow.flag.trans .goal).trans .flag
 exact .refl
theorem lc{la:dM}{E:Pe}{frm:Int}: ∀{n:Nat} {r:List Fr} {w:Pw} {g:Gs},Grow g (fi la E frm n r w g)
 | 0,r,w,g=>.refl
 | n + 1,r,w,g=>by
  cases hb:g.bad with
  | true=>rw[de hb];exact .refl
  | false=>
   match r with
   | []=>rw[gm hb];exact .end
   | .lp k::r=>rw[jv hb];exact .end
   | .st (.node s a [])::r=>rw[fA hb];exact Grow.leaf.trans lc
   | .st (.node s a [x])::r=>rw[ju hb];exact .end
   | .st (.node s a [x,y])::r=>
    by_cases hk:s.kind=1
    rw[gl hb hk];exact lc
    rw[jy hb hk,dT]
    exact((Grow.flag.trans .flag).trans .flag).trans (lc.trans lc)
   | .st (.node s a (x::y::z::ks))::r=>rw[jR hb];exact Grow.leaf.trans lc
theorem Sim.grow{P C g h k}(s:Sim P C g h)(hg:g.bad=true)(a:Grow h k):Sim P C g k:=
  ⟨fun e=>absurd (hg.symm.trans e) (by decide),fun _=>(s.bad hg).imp a.2 (fun h=>by have:=a.1;omega)⟩
theorem jb{la:dM}{E:Pe}{frm:Int}{P C}: ∀{n:Nat} {r:List Fr} {w:Pw} {g h:Gs},Sim P C g h→Sim P C (fi la E frm n r w g) (fi la E frm n r w h)
 | 0,r,w,g,h,s=>s
 | n + 1,r,w,g,h,s=>by
  cases hb:g.bad with
  | true=>rw[de hb];exact s.grow hb lc
  | false=>
   have hc:=(s.ok hb).1
   match r with
   | []=>rw[gm hb,gm hc];exact s.end
   | .lp k::r=>rw[jv hb,jv hc];exact s.end
   | .st (.node m a [])::r=>
    rw[fA hb,fA hc,(s.leaf (la:=la) (m:=m) (w:=w)).1]
    exact jb s.leaf.2
   | .st (.node m a [x])::r=>rw[ju hb,ju hc];exact s.end
   | .st (.node m a [x,y])::r=>
    by_cases hk:m.kind=1
    rw[gl hb hk,gl hc hk];exact jb s
    rw[jy hb hk,jy hc hk]
    exact jb (jb s.flag.flag.flag)
   | .st (.node m a (x::y::z::ks))::r=>
    rw[jR hb,jR hc,(s.leaf (la:=la) (m:=m) (w:=w)).1]
    exact jb s.leaf.2
theorem r5{la:dM}{E:Pe}{b:List Sm}{t:Tr}{pre:List Tm}{P C}{n:Nat}{g h:Gs}(s:Sim P C g h):Sim P C (cZ la E b t pre n g) (cZ la E b t pre n h):=by
 cases n with
 | zero=>rw[cZ,cZ];exact jb s
 | succ n=>rw[cZ,cZ,dT,dT,bk,bk];exact jb (jb s.flag.flag.flag)
theorem A1{E:Pe}{b:List Sm}{t:Tr}{pre:List Tm}{n:Nat}{g:Gs}:GEq (cZ bT E b t pre n g) (cZ bH E b t pre n g):=by
 cases n with
 | zero=>rw[cZ,cZ];exact kV zR .refl
 | succ n=>rw[cZ,cZ,dT,dT];exact kV zR (kV zR .refl)
theorem oh{la:dM}{E:Pe}{b:List Sm}{t:Tr}{pre:List Tm}{n:Nat}{g:Gs}(h:g.bad=true):cZ la E b t pre n g=g:=by
 cases n with
 | zero=>rw[cZ];exact de h
 | succ n=>rw[cZ,dT,bk,nC h,nC h,nC h,de h,de h]
def gp(p:Pm)(t:Tr):Nat→Gs
  | 0=>g0
  | i+1=>kP bT p t i (gp p t i)
def iS(p:Pm)(t:Tr):Nat→Gs
  | 0=>g0
  | i+1=>if(iS p t i).bad=true then iS p t i else⟨(iS p t i).paths++(kP bH p t i g0).paths,(iS p t i).conds++(kP bH p t i g0).conds,(kP bH p t i g0).bad||decide (200<((iS p t i).paths++(kP bH p t i g0).paths).length)⟩
theorem Ab{p:Pm}{t:Tr}: ∀n,GEq (gp p t n) (iS p t n)∧((gp p t n).bad=false→(gp p t n).paths.length≤200)
 | 0=>⟨by rw[gp,iS];exact .refl,fun _=>by rw[gp];exact cT _⟩
 | n + 1=>by
  obtain⟨e,hl⟩:=Ab (p:=p) (t:=t) n
  rw[gp,iS]
  cases hb:(gp p t n).bad with
  | true=>
   rw[if_pos (by rw[←e.bad];exact hb),kP,oh hb]
   exact⟨e,fun h=>by rw[hb]at h;cases h⟩
  | false=>
   have ha:=e.eq hb
   rw[←ha,if_neg (by rw[hb];decide)]
   have s0:Sim (gp p t n).paths (gp p t n).conds (gp p t n) g0:=⟨fun _=>⟨rfl,by simp[g0],by simp[g0],hl hb⟩,fun h=>absurd (hb.symm.trans h) (by decide)⟩
   have s:=r5 (la:=bT) (E:=t2 p.body p.post) (b:=p.body) (t:=t) (pre:=p.pre) (n:=n) s0
   have q:=A1 (E:=t2 p.body p.post) (b:=p.body) (t:=t) (pre:=p.pre) (n:=n) (g:=g0)
   unfold kP
   generalize cZ bT (t2 p.body p.post) p.body t p.pre n (gp p t n)=x at s ⊢
   generalize cZ bT (t2 p.body p.post) p.body t p.pre n g0=y at s q
   generalize cZ bH (t2 p.body p.post) p.body t p.pre n g0=z at q ⊢
   refine⟨?_,fun h=>(s.ok h).2.2.2⟩
   cases hc:x.bad with
   | false=>
    obtain⟨a1,a2,a3,a4⟩:=s.ok hc
    have a5:=q.eq a1
    subst a5
    rw[←a2,←a3,a1,decide_eq_false (show¬200<x.paths.length by omega)]
    have e:(⟨x.paths,x.conds,false||false⟩:Gs)=x:=by cases x;simp only at hc;subst hc;rfl
    rw[e]
    exact .refl
   | true=>
    refine .of hc ?_
    have:z.bad=true∨200<((gp p t n).paths++z.paths).length:=by
     cases hd:y.bad with
     | true=>exact .inl (by rw[←q.bad];exact hd)
     | false=>
      have a6:=q.eq hd
      subst a6
      rcases s.bad hc with h|h
      exact .inl h
      exact .inr (by rw[cG];exact h)
    rcases this with h|h
    simp[h]
    simp only[decide_eq_true h,Bool.or_true]
theorem uy{b:List Sm}{t:Tr}(hT:cD b 0=some (t,b.length)):(∃fl i,Pl b fl i [.st t])∧∀n,n<br b b.length→(∃fl i,Pl b fl i [.st ((bo b t []).getD n default).x,.lp n])∧(∃fl i,Pl b fl i ((bo b t []).getD n default).r):=by
 have hB:=gB hT (nx:= -1) (f:=[]) (r:=[]) .nil
 refine⟨⟨_,_,hB.pl⟩,fun n hn=>?_⟩
 obtain⟨hq,hqa⟩:=m6 hT hn
 obtain⟨i,_,h1,h2,h3,h4⟩:=hB.all _ hq
 rw[hqa]at h3
 exact⟨⟨_,_,h3⟩,⟨_,_,h4⟩⟩
theorem uz{la:dM}{E:Pe}{b:List Sm}{t:Tr}{pre:List Tm}(hE:EOk E b)(hT:cD b 0=some (t,b.length))(hnd:t.nodes≤30){n c:Nat}(hn:n≤br b b.length){g:Gs}(hg:GOk c g):GOk (c+16252928) (cZ la E b t pre n g):=by
 obtain⟨⟨fl,i,p0⟩,hl⟩:=uy hT
 have e0:aP []=0:=rfl
 have h30:=tc
 cases n with
 | zero=>
  rw[cZ]
  have hm:=cP (m:=aP [.st t]) (n:=30) (by show t.nodes+0≤30;omega)
  exact(iu hE p0 hg).le (by omega)
 | succ n=>
  obtain⟨⟨f1,i1,p1⟩,⟨f2,i2,p2⟩⟩:=hl n (by omega)
  have hsz:=(xa hT (r:=[])).size _ (m6 hT (n:=n) (by omega)).1
  have hm1:=cP (m:=aP [.st ((bo b t []).getD n default).x,.lp n]) (n:=30) (by show((bo b t []).getD n default).x.nodes+0≤30;omega)
  have hm2:=cP (m:=aP ((bo b t []).getD n default).r) (n:=30) (by omega)
  rw[cZ,dT,bk]
  exact(iu hE p2 (iu hE p1 hg.flag.flag.flag)).le (by omega)
theorem IC{L:Nat}(h1:4096≤L)(h2:L≤1073741824){p:Pm}{t:Tr}(ht:PtOk p t){n c:Nat}(hn:n≤br p.body p.body.length){g:Gs}(hg:GOk c g)(hL:c+16252928≤L):MC Tryz.prog L 48 [.c (.pt 0 0 0),eI ((n:Int)-1)] (D8 p t g) (bb (.tup []) (BT p t (kP bT p t n g))):=by
 have hE:=ht.e
 have hbl:=ht.len
 have hT:=ht.tree
 have hnd:=ht.nodes
 have hP:=HU (pre:=p.pre) (post:=p.post) hT
 have hpre:=(nh ht.pre).2
 obtain⟨hp0,hl⟩:=uy hT
 have e0:aP []=0:=rfl
 have h30:=tc
 have hlen:(kD t).lp.length=br p.body p.body.length:=(oM hT).1.len
 have hnl:=gS (b:=p.body) (k:=p.body.length)
 rw[kP]
 cases n with
 | zero=>
  have hm:=cP (m:=aP [.st t]) (n:=30) (by show t.nodes+0≤30;omega)
  rw[cZ]
  exact FN h1 h2 (f:=p.pre) (t:=t) Z (by simp) (by simp;omega) Z (by omega) Z
   (zY h1 h2 hE (by omega) hP 31 hp0 (by show t.nodes+0<31;omega) (xb (by omega)) hg (by omega))
 | succ n=>
  obtain⟨hp1,hp2⟩:=hl n (by omega)
  obtain⟨hq,hqa⟩:=m6 hT (n:=n) (by omega)
  have hat:=(xa hT (r:=[])).at_ _ hq
  have hsz:=(xa hT (r:=[])).size _ hq
  have hst:=ht.st _ (show((bo p.body t []).getD n default).a<p.body.length by omega)
  rw[←hat.2.2.2]at hst
  have htm:=lH hst
  have hf:=ja hst
  have hqe:(kD t).lp.getD n default=(bo p.body t []).getD n default:=by rw[(oM hT).2]
  obtain⟨q,hqL⟩: ∃q,(bo p.body t []).getD n default=q:=⟨_,rfl⟩
  rw[hqL]at hp1 hp2 hq hqa hat hsz hst htm hf hqe
  have hsf:(p.pre::(kD t).lp.map (·.s.facts)).getD (n+1) default=q.s.facts:=by
   rw[List.getD_cons_succ,←hqe]
   simp[List.getD_eq_getElem?_getD,show n<(kD t).lp.length by omega]
  have hm1:=cP (m:=aP [.st q.x,.lp n]) (n:=30) (by show q.x.nodes+0≤30;omega)
  have hm2:=cP (m:=aP q.r) (n:=30) (by omega)
  have e:((n+1:Nat):Int)-1=(n:Nat):=by omega
  have hw:=xb (n:=32) (fs:=q.s.facts) (by have:=hf.2;omega)
  have h8:mN 4=(w0 q.s.facts).vars:=rfl
  rw[cZ,e,hqL,h8]
  generalize hw0:w0 q.s.facts=w at hw ⊢
  obtain⟨f1,i1,p1⟩:=hp1
  have hg2:GOk c (cS w (aR q.s.sum w.vars).1 (bk w q.s.sum g)):=hg.flag.flag.flag
  have hg3:=iu hE (la:=bT) (frm:=(n:Nat)) (n:=31) (w:=w.fact (aR q.s.sum w.vars).1) p1 hg2
  exact FL h1 h2 (Y:=fi bT (t2 p.body p.post) (n:Nat) 31 [.st q.x,.lp n]) (N:=fi bT (t2 p.body p.post) (n:Nat) 31 q.r) hw0 (by omega) hqe (by simp;omega) (by simp;omega) hsf (by have:=hf.2;omega) htm.1 (by omega) (fun u g h=>de h) (fun u g h=>de h)
   (fun _=>zY h1 h2 hE (by omega) hP 31 ⟨f1,i1,p1⟩ (by show q.x.nodes+0<31;omega) hw.fact hg2 (by omega))
   (fun _=>zY h1 h2 hE (by omega) hP 31 hp2 (by omega) hw.fact hg3 (by omega))
theorem AM{p:Pm}{t:Tr}(ht:PtOk p t): ∀n,n≤br p.body p.body.length+1→(iS p t n).conds.length≤n*16252928∧((iS p t n).bad=false→(iS p t n).paths.length≤200)∧(n<br p.body p.body.length+1→(kP bH p t n g0).paths.length≤201∧(kP bH p t n g0).conds.length≤16252928)
 | n,hn=>by
  have key: ∀m,m≤br p.body p.body.length→(kP bH p t m g0).paths.length≤201∧(kP bH p t m g0).conds.length≤16252928:=fun m hm=>by
   have h:=uz (la:=bH) (pre:=p.pre) ht.e ht.tree ht.nodes hm zS
   exact⟨h.paths,by have:=h.conds;rw[Nat.zero_add]at this;exact this⟩
  refine⟨?_,?_,fun h=>key n (by omega)⟩
  induction n with
  | zero=>exact cT _
  | succ n ih=>
   have:=ih (by omega)
   have k:=(key n (by omega)).2
   rw[iS];split
   exact Nat.le_trans this (Nat.mul_le_mul_right _ (Nat.le_succ n))
   simp only[cG];rw[Nat.add_mul,Nat.one_mul];exact Nat.add_le_add this k
  cases n with
  | zero=>intro _;exact cT _
  | succ n=>
   rw[iS];split
   rename_i h;intro h2;rw[h]at h2;cases h2
   intro h2
   simp only[Bool.or_eq_false_iff,decide_eq_false_iff_not]at h2
   exact Nat.le_of_not_lt h2.2
theorem ID(ht:PtOk p t)(hL:600000000≤L):MQ h1 h2 28 [ptr p.data] [] (Plain (.tup [.c (.d (zt (if(iS p t (br p.body p.body.length+1)).bad then[]else(iS p t (br p.body p.body.length+1)).paths))),.c (.d (vH (if(iS p t (br p.body p.body.length+1)).bad then[]else(iS p t (br p.body p.body.length+1)).conds))),eB (!(iS p t (br p.body p.body.length+1)).bad)])):=by
 refine MC.data (jB 44 h1 h2 Tryz.func28 Z fun O hF=>?_)
 have hlen:=ht.len
 have hnl:=gS (b:=p.body) (k:=p.body.length)
 have hwl:=i8 (b:=p.body) (i:=p.body.length)
 refine ae (aH Z (ba (aU (bO O Z Z Z) Z (aq ?_))))
 refine js Z (ba (aU (bO O Z Z Z) Z (aq ?_)))
 refine js Z (jn (af (ae (js Z (jn (ao (aw (X:=Nat) (fun i=>⟨[(0,ptr p.data),(5,.c (.rs 905 0 (iS p t i).paths.length)),(6,.c (.rs 906 0 (iS p t i).conds.length)),(7,eI ((i:Int)-1))],[(905,ck (iS p t i).paths),(906,cn (iS p t i).conds)]⟩) (fun i=>i≤(br p.body p.body.length+1)∧(iS p t i).bad=false) (fun i=>(br p.body p.body.length+1)-i) 0 (((dr 9 Z).trans (dr 10 Z)).trans (((aa 9 905 Z Z).trans (aa 10 906 Z Z)).trans (Ent.to ⟨Z,Z,Z,Z,ap⟩ Z))) ?_ (fun i hi=>?_))))))))
 exact⟨cT _,Z⟩
 obtain⟨hi1,hi2⟩:=hi
 obtain⟨k1,k2,k3⟩:=AM ht i hi1
 have k4:=k2 hi2
 refine af (ae (ab Z (an O Z Z Z Z (z3 (pre:=p.pre) (post:=p.post) (b:=p.body) h1 h2 (by omega)) (ac Z) Z Z Z Z (B0:=14000) Z Z (dh Z (js Z (jn (ah Z (fun z15=>?_) (fun z15=>?_))))))))
 refine aj (af (ao (ae (ab Z ?_))))
 have hin:i≤br p.body p.body.length:=by have:=bK z15;omega
 obtain⟨k5,k6⟩:=k3 (by omega)
 have hla:((iS p t i).paths++(kP bH p t i g0).paths).length=(iS p t i).paths.length+(kP bH p t i g0).paths.length:=cG
 refine au O [] (bin:=[]) Z Z Z Z (show MC Tryz.prog L 52 [ptr p.data,eI ((i:Int)-1)] [] (bb (.c (.pt 0 0 0)) (kM (pP p.pre p.body p.post) (dS (aC t (-1) []).1) ((i:Int)-1) (kP bH p t i g0)))from IE (pre:=p.pre) (b:=p.body) (t:=t) (E:=t2 p.body p.post) h1 h2 ht.len ht.tree ht.cok ht.nodes ht.e (nh ht.pre).2 (by omega) (n:=i) hin) Z Z Z Z Z Z (B0:=21000) Z Z (aq ?_)
 refine js Z (ba (az Z (js Z (aU (cU (own:=false) (xs:=(iS p t i).paths.map Pth.cells) (ys:=(kP bH p t i g0).paths.map Pth.cells) (zs:=((iS p t i).paths++(kP bH p t i g0).paths).map Pth.cells) (n:=((iS p t i).paths++(kP bH p t i g0).paths).length) O Z (.row Z (bQ _).symm) (.whole Z (by simp) (.inr ⟨Z,Z⟩)) (by simp) Z (by simp;omega) (by simp;omega) (by simp) (by simp)) Z (aq ?_)))))
 refine aq ?_
 refine js Z (ba (az Z (js Z (aU (cU (own:=false) (xs:=(iS p t i).conds.map Sq.cells) (ys:=(kP bH p t i g0).conds.map Sq.cells) (zs:=((iS p t i).conds++(kP bH p t i g0).conds).map Sq.cells) (n:=((iS p t i).conds++(kP bH p t i g0).conds).length) O Z (.row Z (bQ _).symm) (.whole Z (by simp) (.inr ⟨Z,Z⟩)) (by simp) Z (by simp;omega) (by simp;omega) (by simp) (by simp)) Z (aq ?_)))))
 refine aq ?_
 refine js Z (ba (az Z ?_))
 cases hb37:(kP bH p t i g0).bad with
 | true=>
  refine js Z (bF Z (bF Z (bF Z (av (bl O Z Z Z Z Z) Z (jn (ah Z (fun z41=>?_) (fun z41=>?_)))))))
  refine ae (aH Z (jr ?_))
  refine aJ Z ?_
  have hbad:(iS p t (i+1)).bad=true:=by rw[iS,if_neg (by rw[hi2];decide)];simp[hb37]
  rw[tM (al:=iS p t) (fun i h=>by rw[iS,if_pos h]) hbad (n:=(br p.body p.body.length+1)) (by have:=bK z15;omega),hbad,if_pos Z,if_pos Z]
  exact .tup (.cons (.c .nils) (.cons (.c .nils) (.cons (.c .d) .nil)))
  cases z41
 | false=>
  refine js Z (bq Z (js Z (bq Z (dv Z Z (bq Z (js Z (av (aT O Z Z Z Z Z) Z (jn (ah Z (fun z41=>?_) (fun z41=>?_))))))))))
  refine ae (aH Z (jr ?_))
  refine aJ Z ?_
  have hbad:(iS p t (i+1)).bad=true:=by rw[iS,if_neg (by rw[hi2];decide)];simp only[decide_eq_true (show 200<((iS p t i).paths++(kP bH p t i g0).paths).length by have:=bK z41;omega),Bool.or_true]
  rw[tM (al:=iS p t) (fun i h=>by rw[iS,if_pos h]) hbad (n:=(br p.body p.body.length+1)) (by have:=bK z15;omega),hbad,if_pos Z,if_pos Z]
  exact .tup (.cons (.c .nils) (.cons (.c .nils) (.cons (.c .d) .nil)))
  refine aj (ak (js Z (ji Z (js Z (jn ?_)))))
  refine⟨i+1,(((am [26,32] (e':=[(0,_),(5,_),(6,_),(7,_)]) Z Z ⟨Z,Z,Z,Z,ap⟩ Z).trans (aa 26 905 Z Z)).trans (aa 32 906 Z Z)).trans (Ent.to ⟨Z,by rw[iS,if_neg (by rw[hi2];decide)];rfl,by rw[iS,if_neg (by rw[hi2];decide)];rfl,by rw[show(((i+1:Nat)):Int)-1=((i:Int)-1)+1 by omega];rfl,ap⟩ (by rw[iS,if_neg (by rw[hi2];decide)];rfl)),⟨by omega,?_⟩,by omega⟩
  rw[iS,if_neg (by rw[hi2];decide)]
  simp only[hb37,decide_eq_false (show¬200<((iS p t i).paths++(kP bH p t i g0).paths).length by have:=cu z41;omega)];rfl
 refine bg (ae (az Z (js Z (jr ?_))))
 refine aJ Z ?_
 obtain rfl:i=(br p.body p.body.length+1):=by have:=cu z15;omega
 rw[hi2,if_neg (by decide),if_neg (by decide)]
 exact .tup (.cons (.c (.whole Z (bQ _).symm)) (.cons (.c (.whole Z (bQ _).symm)) (.cons (.c .d) .nil)))
deriving instance Inhabited,DecidableEq for Pth
theorem xI(p:Pm):ii p=gL p:=by
 unfold ii gL
 rw[C6]
 cases vG p.body<;>cases terms p.pre 6<;>rfl
theorem HT{p:Pm}(hp:ii p=true): ∃t,PtOk p t∧BR p.body=t.d:=by
 have htb:vG p.body=true:=by
  have h:=hp
  rw[xI]at h
  unfold gL at h;simp only[bS]at h;exact h.1
 obtain⟨t,g1,g2,g3⟩:=qm htb
 have hc:=uu (show cV (p.body.length+1) p.body 0=some (t,p.body.length)from g1)
 unfold ii kH at hp
 simp only[bS,decide_eq_true_eq]at hp
 obtain⟨q1,⟨⟨⟨q2,q3⟩,q4,q5⟩,q6⟩⟩:=hp
 refine⟨t,⟨by omega,g1,hc.2.1,by have:=hc.2.2;omega,fun k hk=>?_,q1,q6⟩,g3⟩
 rw[aD hk]
 exact List.all_eq_true.1 q4 _ (List.getElem_mem hk)
theorem EL{p:Pm}{t:Tr}(ht:PtOk p t):(p.pre::(kD t).lp.map (·.s.facts)).length=br p.body p.body.length+1:=by
 have:(kD t).lp.length=br p.body p.body.length:=(oM ht.tree).1.len
 rw[eH,bQ,this]
theorem I0{L:Nat}(h1:4096≤L)(h2:L≤1073741824)(hL:600000000≤L){p:Pm}{t:Tr}(ht:PtOk p t):MC Tryz.prog L 47 [.c (.pt 0 0 0),eB true,eI 0,.c (.fb 48 [.pt 0 0 0])] (D8 p t g0) (bb (eB (!(gp p t (br p.body p.body.length+1)).bad)) (BT p t (gp p t (br p.body p.body.length+1)))):=by
 have hl:=EL ht
 have hnl:=gS (b:=p.body) (k:=p.body.length)
 have hlen:=ht.len
 have hst: ∀i,(gp p t i).bad=true→gp p t (i+1)=gp p t i:=fun i h=>by rw[gp,kP,oh h]
 have hok: ∀i,i≤br p.body p.body.length+1→GOk (i*16252928) (gp p t i):=fun i hi=>by
  induction i with
  | zero=>rw[gp];exact zS.le (cT _)
  | succ i ih=>
    rw[gp,kP]
    exact(uz ht.e ht.tree ht.nodes (by omega) (ih (by omega))).le (by omega)
 have:=FO (p:=p) (t:=t) (k:=0) (al:=gp p t) h1 h2 (by omega) hst Z (fun i hi hb=>by
  rw[gp]
  exact IC h1 h2 ht (by omega) (hok i (by omega)) (by omega))
 rw[hl]at this
 exact this
end Go.Al
