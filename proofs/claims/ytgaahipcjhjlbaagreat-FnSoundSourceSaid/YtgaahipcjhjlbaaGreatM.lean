/- The reference: the flow of a program, all paths of a start. The program: goals, facts, ends of paths, copies. The program follows a path. The program: its loops, the paths of a start, of all starts. Both gather the same. -/
import Derived.Test.YtgaahipcjhjlbaaGreatH
import Derived.Test.YtgaahipcjhjlbaaGreatC
set_option linter.unusedVariables false
set_option linter.unusedSimpArgs false
set_option maxRecDepth 10000
set_option maxHeartbeats 4000000
open Go.Proofs
namespace Go.Al
variable{L:Nat}(h1:4096≤L)(h2:L≤1073741824)
def av : Tr→Int→List Fl→List Fl×Int
  | .node s a [x,y],nx,f=>if s.kind=1 then av x (av y nx f).2 (av y nx f).1
      else((av y nx (av x nx f).1).1++[⟨a,(av x nx f).2,(av y nx (av x nx f).1).2⟩],(av y nx (av x nx f).1).1.length)
  | .node s a [x],nx,f=>((av x f.length (f++[⟨a,0,nx⟩])).1.set f.length ⟨((av x f.length (f++[⟨a,0,nx⟩])).1.getD f.length default).stmt,(av x f.length (f++[⟨a,0,nx⟩])).2,((av x f.length (f++[⟨a,0,nx⟩])).1.getD f.length default).other⟩,f.length)
  | .node s a _,nx,f=>(f++[⟨a,nx,-1⟩],f.length)
theorem ou{s:Sm}{a nx:Int}{f:List Fl}:av (.node s a []) nx f=(f++[⟨a,nx,-1⟩],(f.length:Int)):=by rw[av]<;>simp
theorem oq{s:Sm}{a nx:Int}{x:Tr}{f:List Fl}:av (.node s a [x]) nx f=((av x f.length (f++[⟨a,0,nx⟩])).1.set f.length ⟨((av x f.length (f++[⟨a,0,nx⟩])).1.getD f.length default).stmt,(av x f.length (f++[⟨a,0,nx⟩])).2,((av x f.length (f++[⟨a,0,nx⟩])).1.getD f.length default).other⟩,(f.length:Int)):=by rw[av]
theorem lU{s:Sm}{a nx:Int}{x y:Tr}{f:List Fl}:av (.node s a [x,y]) nx f=if s.kind=1 then av x (av y nx f).2 (av y nx f).1
      else((av y nx (av x nx f).1).1++[⟨a,(av x nx f).2,(av y nx (av x nx f).1).2⟩],((av y nx (av x nx f).1).1.length:Int)):=by rw[av]
theorem fc{n:Nat}: ∀{t:Tr},t.cok n→∀{nx:Int} {f:List Fl},f.length≤(av t nx f).1.length∧(av t nx f).1.length≤f.length+t.nodes
 | .node s a [x,y],ht,nx,f=>by
  have hx: ∀nx f,f.length≤(av x nx f).1.length∧(av x nx f).1.length≤f.length+x.nodes:=fun nx f=>fc ht.2.2.2.1
  have hy: ∀nx f,f.length≤(av y nx f).1.length∧(av y nx f).1.length≤f.length+y.nodes:=fun nx f=>fc ht.2.2.2.2.1
  rw[show(Tr.node s a [x,y]).nodes=1+(x.nodes+y.nodes) by simp[Tr.nodes,Trs.nodes],lU]
  split
  have:=hy nx f;have:=hx (av y nx f).2 (av y nx f).1;omega
  have:=hx nx f;have:=hy nx (av x nx f).1
  simp only[cp,du];omega
 | .node s a [x],ht,nx,f=>by
  have hx: ∀nx f,f.length≤(av x nx f).1.length∧(av x nx f).1.length≤f.length+x.nodes:=fun nx f=>fc ht.2.2.2.1
  rw[show(Tr.node s a [x]).nodes=1+x.nodes by simp[Tr.nodes,Trs.nodes],oq]
  have:=hx f.length (f++[⟨a,0,nx⟩])
  simp only[cp,du]at this
  simp only[List.length_set];omega
 | .node s a [],ht,nx,f=>by
  rw[show(Tr.node s a []).nodes=1 by simp[Tr.nodes,Trs.nodes],ou]
  simp
 | .node s a (x::y::z::ks),ht,nx,f=>by
  have h1:((x::y::z::ks).length:Int)=bl s.kind:=ht.2.2.1.2
  have h2:=(cN s.kind).2
  simp only[dW]at h1
  omega
theorem yo{b:List Sm}{k k':Nat}{n:Int}(hn:0<n)(h:fw (b.drop k) n=some (k'-k))(hk:k≤k'):k<b.length∧k+1≤k'∧fw (b.drop (k+1)) (n-1+bl (b.getD k default).kind)=some (k'-(k+1)):=by
 have hlt:k<b.length:=by
  rcases Nat.lt_or_ge k b.length with h1|h1
  exact h1
  rw[List.drop_eq_nil_of_le h1,fw,if_neg (by omega)]at h;cases h
 rw[og hlt hn,Option.map_eq_some_iff]at h
 obtain⟨q,h1,h2⟩:=h
 exact⟨hlt,by omega,by rw[h1];congr 1;omega⟩
theorem wi{b:List Sm}{k k':Nat}{t:Tr}(h:ci b k=some (t,k')):fw (b.drop k) 1=some (k'-k)∧k<k'∧k'≤b.length:=by
 obtain⟨h1,h2⟩:=oe h
 have h3:=h2 0 (Int.le_refl _)
 refine⟨?_,jI h⟩
 rw[show(1:Int)=0+1 from Z,h3,kR (Int.le_refl _)]
 simp
theorem AW{b:List Sm}{k k':Nat}{n:Int}(hn:n≤0)(h:fw (b.drop k) n=some (k'-k))(hk:k≤k'):k=k':=by
 rw[kR hn]at h
 simp only[dL]at h
 omega
abbrev fN(f:List Fl):B:=.row true 3 (f.map Fl.cells)
variable{b:List Sm}{t:Tr}{k:Nat}
theorem It{k':Nat}(hb:b.length≤1000)(ht:ci b k=some (t,k')):MQ h1 h2 124 [.c (.d (kv b)),eI (k:Nat)] [] (Plain (.tup [eI (k:Nat),eI (k':Nat)])):=by
 refine jB 29 h1 h2 Tryz.func124 Z fun O hF=>?_
 have hs0:=wi ht
 refine ac (jb Z (aN (js Z (aN (jb Z (jn (ae (ak (ap (X:=Nat×Int) (fun z=>⟨[(0,.c (.d (kv b))),(1,eI (k:Nat)),(6,eI z.2),(7,eI (z.1:Nat))],[]⟩) (fun z=>z.1≤k'∧0≤z.2∧z.2≤(z.1:Int)+1∧fw (b.drop z.1) z.2=some (k'-z.1)) (fun z=>k'-z.1) (k,1) (Ent.env ⟨Z,Z,Z,Z,tv⟩) ?_ (fun z hi=>?_))))))))))
 exact⟨by show k≤k';omega,by show(0:Int)≤1;decide,by show(1:Int)≤(k:Int)+1;omega,hs0.1⟩
 refine ae (ac (jb Z (jn (zc Z (fun z10=>?_) (fun z10=>?_)))))
 refine af (ak (ae (ac (jb Z ?_))))
 have hpos:=bt z10
 have hsk:=yo hpos hi.2.2.2 hi.1
 refine st (aQ O Z Z Z Z Z Z Z Z (dx hsk.1)) Z (jb Z (jn (ak (ae (ac (jb Z (jn (zc Z (fun z18=>?_) (fun z18=>?_)))))))))
 refine af (zc Z (fun z18=>?_) (fun z18=>?_))
 refine ag (js Z (ji Z (js Z (jn (ag (js Z (ji Z (js Z (jn ?_)))))))))
 have hbe:bl (b.getD z.1 default).kind=2:=by unfold bl;rw[if_pos (bt z18)]
 refine⟨(z.1+1,z.2+1),Ent.env ⟨Z,Z,Z,Z,tv⟩,⟨hsk.2.1,by show(0:Int)≤z.2+1;omega,by show z.2+1≤((z.1+1:Nat):Int)+1;omega,?_⟩,by show k'-(z.1+1)<k'-z.1;omega⟩
 rw[show(z.2+1:Int)=z.2-1+bl (b.getD z.1 default).kind by omega]
 exact hsk.2.2
 exact absurd ‹decide ((b.getD z.1 default).kind=1)=true› (by rw[z18];decide)
 refine ag (jb Z (jn (zc Z (fun z18=>?_) (fun z18=>?_))))
 refine ag (js Z (ji Z (js Z (jn (ag (js Z (ji Z (js Z (jn ?_)))))))))
 have hbe:bl (b.getD z.1 default).kind=2:=by unfold bl;rw[bt z18];decide
 refine⟨(z.1+1,z.2+1),Ent.env ⟨Z,Z,Z,Z,tv⟩,⟨hsk.2.1,by show(0:Int)≤z.2+1;omega,by show z.2+1≤((z.1+1:Nat):Int)+1;omega,?_⟩,by show k'-(z.1+1)<k'-z.1;omega⟩
 rw[show(z.2+1:Int)=z.2-1+bl (b.getD z.1 default).kind by omega]
 exact hsk.2.2
 refine ac (jb Z (jn (zc Z (fun z23=>?_) (fun z23=>?_))))
 refine af (ag (js Z (ji Z (js Z (jn ?_)))))
 have hbe:bl (b.getD z.1 default).kind=1:=by unfold bl;rw[bt z23];decide
 refine⟨(z.1+1,z.2),Ent.env ⟨Z,Z,Z,Z,tv⟩,⟨hsk.2.1,by show(0:Int)≤z.2;omega,by show z.2≤((z.1+1:Nat):Int)+1;omega,?_⟩,by show k'-(z.1+1)<k'-z.1;omega⟩
 rw[show(z.2:Int)=z.2-1+bl (b.getD z.1 default).kind by omega]
 exact hsk.2.2
 refine ag (js Z (ji Z (js Z (jn (ag (js Z (ji Z (js Z (jn ?_)))))))))
 have hne: ¬(b.getD z.1 default).kind=1:=b9 ‹decide ((b.getD z.1 default).kind=1)=false›
 have hbe:bl (b.getD z.1 default).kind=0:=by unfold bl;rw[if_neg hne,if_neg (b9 z18),if_neg (b9 z23)]
 refine⟨(z.1+1,z.2-1),Ent.env ⟨Z,Z,Z,Z,tv⟩,⟨hsk.2.1,by show(0:Int)≤z.2-1;omega,by show z.2-1≤((z.1+1:Nat):Int)+1;omega,?_⟩,by show k'-(z.1+1)<k'-z.1;omega⟩
 rw[show(z.2-1:Int)=z.2-1+bl (b.getD z.1 default).kind by omega]
 exact hsk.2.2
 refine aR (ac (jd Z (jr ?_)))
 refine eR Z ?_
 have he:=AW (by have:=b9 z10;omega) hi.2.2.2 hi.1
 rw[←he]
 exact⟨Z,Z⟩
theorem cY{body:List Sm}{k k':Nat}{s:Sm}{a:Int}{ks:List Tr}(h:ci body k=some (.node s a ks,k')):a=(k:Nat):=by
 rw[nW]at h
 split at h
 cases h
 split at h
 cases h
 simp only[Option.map_eq_some_iff]at h
 obtain⟨⟨ts,k2⟩,h3,h4⟩:=h
 simp only[Prod.mk.injEq,Tr.node.injEq]at h4
 exact h4.1.2.1.symm
theorem eA{f:Nat→Option (Tr×Nat)}{k k':Nat}(h:cM f 0 k=some ([],k')):k'=k:=by
 simp only[cM,dL,Prod.mk.injEq]at h;exact h.2.symm
theorem bZ{f:Nat→Option (Tr×Nat)}{q k k':Nat}{x:Tr}{xs:List Tr}(h:cM f (q+1) k=some (x::xs,k')): ∃k1,f k=some (x,k1)∧cM f q k1=some (xs,k'):=by
 unfold cM at h
 cases hx:f k with
 | none=>rw[hx]at h;cases h
 | some p=>
  obtain⟨t,k1⟩:=p
  rw[hx]at h
  simp only[Option.map_eq_some_iff]at h
  obtain⟨⟨ts1,k2⟩,h1,h2⟩:=h
  simp only[Prod.mk.injEq,List.cons.injEq]at h2
  obtain⟨⟨rfl,rfl⟩,rfl⟩:=h2
  exact⟨k1,Z,h1⟩
theorem kX{k:Int}(h:bl k=1):k=8:=by
 unfold bl at h
 split at h
 omega
 split at h
 omega
 split at h
 assumption
 omega
variable{nx:Int}{f:List Fl}{s:Sm}
theorem CV(hkk:bl s.kind=0)(hk:k<b.length)(hbs:b.getD k default=s)(hb:b.length≤1000)(hf:f.length+Tr.nodes (.node s (k:Nat) [])≤2000):MQ h1 h2 80 [.c (.d (kv b)),eI (k:Nat),eI nx,.c (.rs 0 0 f.length)] [(0,fN f)] (aO (.tup [.c (.rs 1 0 (av (.node s (k:Nat) []) nx f).1.length),eI (av (.node s (k:Nat) []) nx f).2,eI (k+1:Nat)]) [(1,fN (av (.node s (k:Nat) []) nx f).1)]):=by
 refine MC.shift 500 Z (jH 132 [500] h1 h2 Tryz.func80 Z fun O hF=>?_)
 refine bJ ?_
 have hne:=iR hkk
 have hnd:Tr.nodes (.node s (k:Nat) [])=1:=by simp[Tr.nodes,Trs.nodes]
 rw[ou]
 refine ac (jc Z (jn (ae (ac (jb Z (st ((aQ O Z Z Z Z Z Z Z Z (dx hk)).cast (v':=ptr (Sm.cells s)) (by rw[hbs])) Z (jb Z (jn (ak (ac (jb Z (jn (zc Z (fun z32=>?_) (fun z32=>?_))))))))))))))
 exact absurd (bt z32) (by omega)
 refine ac (jb Z (jn (zc Z (fun z63=>?_) (fun z63=>?_))))
 exact absurd (bt z63) (by omega)
 refine ac (jb Z (jn (zc Z (fun z94=>?_) (fun z94=>?_))))
 exact absurd (bt z94) (by omega)
 refine af (ac (jd Z (hp (bz O Z Z Z) Z (am ?_))))
 refine nB (q:=3) O (cu (zs:=(f++[(⟨(k:Nat),nx,-1⟩:Fl)]).map Fl.cells) (n:=(f++[(⟨(k:Nat),nx,-1⟩:Fl)]).length) O Z Z Z Z Z Z Z Z Z Z Z Z Z Z Z Z (.row Z (bA _).symm) Z Z (by decide) Z (by simp;omega) (by simp;omega) (by simp) (by simp)) Z Z Z Z Z Z Z Z Z Z Z Z Z Z Z (by omega) Z Z (am ?_)
 refine js Z (st ((vF Z).cast (v':=eI ((k+1:Nat):Int)) (congrArg eI (by omega))) Z (jc Z (jr ?_)))
 refine⟨.inl Z,_,aa 127 501 Z Z,_,Z,Z,Z⟩
variable{x y:Tr}{k1:Nat}
theorem CU{k2:Nat}(hkk:s.kind=1)(hx:ci b (k+1)=some (x,k1))(ihx: ∀(nx:Int) (f:List Fl),f.length+x.nodes≤2000→MQ h1 h2 80 [.c (.d (kv b)),eI (k+1:Nat),eI nx,.c (.rs 0 0 f.length)] [(0,fN f)] (aO (.tup [.c (.rs 1 0 (av x nx f).1.length),eI (av x nx f).2,eI (k1:Nat)]) [(1,fN (av x nx f).1)]))(hlx: ∀(nx:Int) (f:List Fl),f.length≤(av x nx f).1.length∧(av x nx f).1.length≤f.length+x.nodes)(ihy: ∀(nx:Int) (f:List Fl),f.length+y.nodes≤2000→MQ h1 h2 80 [.c (.d (kv b)),eI (k1:Nat),eI nx,.c (.rs 0 0 f.length)] [(0,fN f)] (aO (.tup [.c (.rs 1 0 (av y nx f).1.length),eI (av y nx f).2,eI (k2:Nat)]) [(1,fN (av y nx f).1)]))(hly: ∀(nx:Int) (f:List Fl),f.length≤(av y nx f).1.length∧(av y nx f).1.length≤f.length+y.nodes)(hk:k<b.length)(hbs:b.getD k default=s)(hb:b.length≤1000)(hf:f.length+Tr.nodes (.node s (k:Nat) [x,y])≤2000):MQ h1 h2 80 [.c (.d (kv b)),eI (k:Nat),eI nx,.c (.rs 0 0 f.length)] [(0,fN f)] (aO (.tup [.c (.rs 1 0 (av (.node s (k:Nat) [x,y]) nx f).1.length),eI (av (.node s (k:Nat) [x,y]) nx f).2,eI (k2:Nat)]) [(1,fN (av (.node s (k:Nat) [x,y]) nx f).1)]):=by
 refine MC.shift 500 Z (jH 132 [500] h1 h2 Tryz.func80 Z fun O hF=>?_)
 refine bJ ?_
 have hnd:Tr.nodes (.node s (k:Nat) [x,y])=1+(x.nodes+y.nodes):=by simp[Tr.nodes,Trs.nodes]
 have h9:=hly nx f
 rw[lU,if_pos hkk]
 refine ac (jc Z (jn (ae (ac (jb Z (st ((aQ O Z Z Z Z Z Z Z Z (dx hk)).cast (v':=ptr (Sm.cells s)) (by rw[hbs])) Z (jb Z (jn (ak (ac (jb Z (jn (zc Z (fun z32=>?_) (fun z32=>?_))))))))))))))
 refine ac (jb Z (st ((vF Z).cast (v':=eI ((k+1:Nat):Int)) (congrArg eI (by omega))) Z (aj O Z Z Z Z (It (b:=b) h1 h2 hb hx) (ab Z) Z Z Z Z (B0:=39000) Z Z (jd Z (js Z (aN (jd Z (ao O [500] (bin:=[fN f]) Z Z Z Z (ihy nx f (by omega)) Z Z Z Z Z Z (B0:=47000) Z Z (am ?_)))))))))
 refine jd Z (jc Z (aN (jb Z (st ((vF Z).cast (v':=eI ((k+1:Nat):Int)) (congrArg eI (by omega))) Z (jb Z (ao O [47001] (bin:=[fN (av y nx f).1]) Z Z Z Z (ihx (av y nx f).2 (av y nx f).1 (by omega)) Z Z Z Z Z Z (B0:=57000) Z Z (am ?_)))))))
 refine jd Z (jc Z (aN (jd Z (jb Z (jr ?_)))))
 refine⟨.inl Z,_,aa 57001 501 Z Z,_,Z,Z,Z⟩
 exact absurd (b9 z32) (by omega)
theorem CT{k2:Nat}(hkk:s.kind=7)(ihx: ∀(nx:Int) (f:List Fl),f.length+x.nodes≤2000→MQ h1 h2 80 [.c (.d (kv b)),eI (k+1:Nat),eI nx,.c (.rs 0 0 f.length)] [(0,fN f)] (aO (.tup [.c (.rs 1 0 (av x nx f).1.length),eI (av x nx f).2,eI (k1:Nat)]) [(1,fN (av x nx f).1)]))(hlx: ∀(nx:Int) (f:List Fl),f.length≤(av x nx f).1.length∧(av x nx f).1.length≤f.length+x.nodes)(ihy: ∀(nx:Int) (f:List Fl),f.length+y.nodes≤2000→MQ h1 h2 80 [.c (.d (kv b)),eI (k1:Nat),eI nx,.c (.rs 0 0 f.length)] [(0,fN f)] (aO (.tup [.c (.rs 1 0 (av y nx f).1.length),eI (av y nx f).2,eI (k2:Nat)]) [(1,fN (av y nx f).1)]))(hly: ∀(nx:Int) (f:List Fl),f.length≤(av y nx f).1.length∧(av y nx f).1.length≤f.length+y.nodes)(hk:k<b.length)(hbs:b.getD k default=s)(hb:b.length≤1000)(hf:f.length+Tr.nodes (.node s (k:Nat) [x,y])≤2000):MQ h1 h2 80 [.c (.d (kv b)),eI (k:Nat),eI nx,.c (.rs 0 0 f.length)] [(0,fN f)] (aO (.tup [.c (.rs 1 0 (av (.node s (k:Nat) [x,y]) nx f).1.length),eI (av (.node s (k:Nat) [x,y]) nx f).2,eI (k2:Nat)]) [(1,fN (av (.node s (k:Nat) [x,y]) nx f).1)]):=by
 refine MC.shift 500 Z (jH 132 [500] h1 h2 Tryz.func80 Z fun O hF=>?_)
 refine bJ ?_
 have hnd:Tr.nodes (.node s (k:Nat) [x,y])=1+(x.nodes+y.nodes):=by simp[Tr.nodes,Trs.nodes]
 have h9:=hlx nx f
 have h8:=hly nx (av x nx f).1
 rw[lU,if_neg (by omega)]
 refine ac (jc Z (jn (ae (ac (jb Z (st ((aQ O Z Z Z Z Z Z Z Z (dx hk)).cast (v':=ptr (Sm.cells s)) (by rw[hbs])) Z (jb Z (jn (ak (ac (jb Z (jn (zc Z (fun z32=>?_) (fun z32=>?_))))))))))))))
 exact absurd (bt z32) (by omega)
 refine ac (jb Z (jn (zc Z (fun z63=>?_) (fun z63=>?_))))
 refine ac (jb Z (st ((vF Z).cast (v':=eI ((k+1:Nat):Int)) (congrArg eI (by omega))) Z (jb Z (ao O [500] (bin:=[fN f]) Z Z Z Z (ihx nx f (by omega)) Z Z Z Z Z Z (B0:=72000) Z Z (am ?_)))))
 refine jd Z (jc Z (aN (jd Z (ao O [72001] (bin:=[fN (av x nx f).1]) Z Z Z Z (ihy nx (av x nx f).1 (by omega)) Z Z Z Z Z Z (B0:=81000) Z Z (am ?_)))))
 refine jd Z (jc Z (aN (jd Z (js Z (hp (bz O Z Z Z) Z (am ?_))))))
 refine nB (q:=18) O (cu (zs:=((av y nx (av x nx f).1).1++[(⟨(k:Nat),(av x nx f).2,(av y nx (av x nx f).1).2⟩:Fl)]).map Fl.cells) (n:=((av y nx (av x nx f).1).1++[(⟨(k:Nat),(av x nx f).2,(av y nx (av x nx f).1).2⟩:Fl)]).length) O Z Z Z Z Z Z Z Z Z Z Z Z Z Z Z Z (.row Z (bA _).symm) Z Z (by decide) Z (by simp;omega) (by simp;omega) (by simp) (by simp)) Z Z Z Z Z Z Z Z Z Z Z Z Z Z Z (by omega) Z Z (am ?_)
 refine jd Z (jr ?_)
 refine⟨.inl Z,_,aa 90 501 Z Z,_,Z,Z,Z⟩
 exact absurd (b9 z63) (by omega)
theorem CR(hkk:s.kind=8)(ihx: ∀(nx:Int) (f:List Fl),f.length+x.nodes≤2000→MQ h1 h2 80 [.c (.d (kv b)),eI (k+1:Nat),eI nx,.c (.rs 0 0 f.length)] [(0,fN f)] (aO (.tup [.c (.rs 1 0 (av x nx f).1.length),eI (av x nx f).2,eI (k1:Nat)]) [(1,fN (av x nx f).1)]))(hlx: ∀(nx:Int) (f:List Fl),f.length≤(av x nx f).1.length∧(av x nx f).1.length≤f.length+x.nodes)(hk:k<b.length)(hbs:b.getD k default=s)(hb:b.length≤1000)(hf:f.length+Tr.nodes (.node s (k:Nat) [x])≤2000):MQ h1 h2 80 [.c (.d (kv b)),eI (k:Nat),eI nx,.c (.rs 0 0 f.length)] [(0,fN f)] (aO (.tup [.c (.rs 1 0 (av (.node s (k:Nat) [x]) nx f).1.length),eI (av (.node s (k:Nat) [x]) nx f).2,eI (k1:Nat)]) [(1,fN (av (.node s (k:Nat) [x]) nx f).1)]):=by
 refine MC.shift 500 Z (jH 132 [500] h1 h2 Tryz.func80 Z fun O hF=>?_)
 refine bJ ?_
 have hnd:Tr.nodes (.node s (k:Nat) [x])=1+x.nodes:=by simp[Tr.nodes,Trs.nodes]
 have h9:=hlx (f.length:Nat) (f++[(⟨(k:Nat),0,nx⟩:Fl)])
 have h8:(f++[(⟨(k:Nat),0,nx⟩:Fl)]).length=f.length+1:=by simp
 rw[oq]
 refine ac (jc Z (jn (ae (ac (jb Z (st ((aQ O Z Z Z Z Z Z Z Z (dx hk)).cast (v':=ptr (Sm.cells s)) (by rw[hbs])) Z (jb Z (jn (ak (ac (jb Z (jn (zc Z (fun z32=>?_) (fun z32=>?_))))))))))))))
 exact absurd (bt z32) (by omega)
 refine ac (jb Z (jn (zc Z (fun z63=>?_) (fun z63=>?_))))
 exact absurd (bt z63) (by omega)
 refine ac (jb Z (jn (zc Z (fun z94=>?_) (fun z94=>?_))))
 refine ac (js Z (db Z Z (js Z (aN (jd Z (hp (bz O Z Z Z) Z (am ?_)))))))
 refine hp (cu (zs:=(f++[(⟨(k:Nat),0,nx⟩:Fl)]).map Fl.cells) (n:=(f++[(⟨(k:Nat),0,nx⟩:Fl)]).length) O Z Z Z Z Z Z Z Z Z Z Z Z Z Z Z Z (.row Z (bA _).symm) Z Z (by decide) Z (by simp;omega) (by simp;omega) (by simp) (by simp)) Z (am ?_)
 refine am ?_
 refine js Z (aN (jb Z (st ((vF Z).cast (v':=eI ((k+1:Nat):Int)) (congrArg eI (by omega))) Z (jb Z (ao O [103] (bin:=[fN (f++[(⟨(k:Nat),0,nx⟩:Fl)])]) Z Z Z Z (ihx (f.length:Nat) (f++[(⟨(k:Nat),0,nx⟩:Fl)]) (by omega)) Z Z Z Z Z Z (B0:=111000) Z Z (am ?_))))))
 refine jd Z (jc Z (aN (jc Z (db Z Z (js Z (hp (bL (ex:=Fl.cells ((av x (f.length:Nat) (f++[(⟨(k:Nat),0,nx⟩:Fl)])).1.getD f.length default)) (xs':=((av x (f.length:Nat) (f++[(⟨(k:Nat),0,nx⟩:Fl)])).1.set f.length ⟨((av x (f.length:Nat) (f++[(⟨(k:Nat),0,nx⟩:Fl)])).1.getD f.length default).stmt,(av x (f.length:Nat) (f++[(⟨(k:Nat),0,nx⟩:Fl)])).2,((av x (f.length:Nat) (f++[(⟨(k:Nat),0,nx⟩:Fl)])).1.getD f.length default).other⟩).map Fl.cells) O Z Z Z Z Z Z Z Z Z Z Z Z Z Z (GH (by omega) (by omega)) (GB (v:=(⟨((av x (f.length:Nat) (f++[(⟨(k:Nat),0,nx⟩:Fl)])).1.getD f.length default).stmt,(av x (f.length:Nat) (f++[(⟨(k:Nat),0,nx⟩:Fl)])).2,((av x (f.length:Nat) (f++[(⟨(k:Nat),0,nx⟩:Fl)])).1.getD f.length default).other⟩:Fl)) (by omega) Z)) Z (am ?_)))))))
 refine aN (jd Z (jb Z (jr ?_)))
 rw[List.length_set]
 refine⟨.inl Z,_,aa 111001 501 Z Z,_,Z,Z,Z⟩
 exact absurd (b9 z94) (by omega)
theorem t8{L:Nat}(h1:4096≤L)(h2:L≤1073741824){b:List Sm}(hb:b.length≤1000): ∀{t:Tr} {k k':Nat},ci b k=some (t,k')→t.cok b.length→∀(nx:Int) (f:List Fl),f.length+t.nodes≤2000→MC Tryz.prog L 80 [.c (.d (kv b)),eI (k:Nat),eI nx,.c (.rs 0 0 f.length)] [(0,fN f)] (aO (.tup [.c (.rs 1 0 (av t nx f).1.length),eI (av t nx f).2,eI (k':Nat)]) [(1,fN (av t nx f).1)])
 | .node s a [x,y],k,k',h,ht,nx,f,hf=>by
  obtain⟨e1,e2,e3,e4,e5⟩:=cd h
  obtain rfl:=cY h
  obtain⟨k1,i1,i2⟩:=bZ e4
  obtain⟨k2,i3,i4⟩:=bZ i2
  obtain rfl:=eA i4
  have hxy:=fun nx f h=>t8 h1 h2 hb i1 ht.2.2.2.1 nx f h
  have hyy:=fun nx f h=>t8 h1 h2 hb i3 ht.2.2.2.2.1 nx f h
  by_cases hk:s.kind=1
  exact CU h1 h2 hk i1 hxy (fun nx f=>fc ht.2.2.2.1) hyy (fun nx f=>fc ht.2.2.2.2.1) e1 e2.symm hb hf
  have hk7:s.kind=7:=by
   have h3:bl s.kind=2:=e5.symm
   unfold bl at h3
   split at h3
   omega
   split at h3
   assumption
   split at h3<;>omega
  exact CT h1 h2 hk7 hxy (fun nx f=>fc ht.2.2.2.1) hyy (fun nx f=>fc ht.2.2.2.2.1) e1 e2.symm hb hf
 | .node s a [x],k,k',h,ht,nx,f,hf=>by
  obtain⟨e1,e2,e3,e4,e5⟩:=cd h
  obtain rfl:=cY h
  obtain⟨k1,i1,i2⟩:=bZ e4
  obtain rfl:=eA i2
  exact CR h1 h2 (kX e5.symm) (fun nx f h=>t8 h1 h2 hb i1 ht.2.2.2.1 nx f h) (fun nx f=>fc ht.2.2.2.1) e1 e2.symm hb hf
 | .node s a [],k,k',h,ht,nx,f,hf=>by
  obtain⟨e1,e2,e3,e4,e5⟩:=cd h
  obtain rfl:=cY h
  obtain rfl:=eA e4
  exact CV h1 h2 e5.symm e1 e2.symm hb hf
 | .node s a (x::y::z::ks),k,k',h,ht,nx,f,hf=>by
  have h1:((x::y::z::ks).length:Int)=bl s.kind:=ht.2.2.1.2
  have h2:=(cN s.kind).2
  simp only[dW]at h1
  omega
structure Ext(b:List Sm)(f g:List Fl):Prop where
  len:f.length≤g.length
  stmt: ∀i,i<f.length→(g.getD i default).stmt=(f.getD i default).stmt
  same: ∀i,i<f.length→∀k:Nat,(f.getD i default).stmt=(k:Nat)→(b.getD k default).kind≠8→g.getD i default=f.getD i default
theorem Ext.trans{b:List Sm}{f g h:List Fl}(a:Ext b f g)(c:Ext b g h):Ext b f h:=
  ⟨Nat.le_trans a.len c.len,fun i hi=>(c.stmt i (Nat.lt_of_lt_of_le hi a.len)).trans (a.stmt i hi),fun i hi k hk h8=>(c.same i (Nat.lt_of_lt_of_le hi a.len) k ((a.stmt i hi).trans hk) h8).trans (a.same i hi k hk h8)⟩
theorem e8{f:List Fl}{x:Fl}{i:Nat}(h:i<f.length):(f++[x]).getD i default=f.getD i default:=by
 simp[List.getD_eq_getElem?_getD,List.getElem?_append_left h]
theorem eE{f:List Fl}{x:Fl}:(f++[x]).getD f.length default=x:=by simp[List.getD_eq_getElem?_getD]
theorem Ext.app{b:List Sm}{f:List Fl}{x:Fl}:Ext b f (f++[x]):=⟨by simp,fun i hi=>by rw[e8 hi],fun i hi _ _ _=>e8 hi⟩
theorem Ext.set{b:List Sm}{f:List Fl}{n k:Nat}{v:Int}(hn:n<f.length)(hs:(f.getD n default).stmt=(k:Nat))(h8:(b.getD k default).kind=8):Ext b f (f.set n ⟨(f.getD n default).stmt,v,(f.getD n default).other⟩):=by
 refine⟨by simp,fun i hi=>?_,fun i hi j hj hne=>?_⟩
 by_cases e:i=n
 subst e;simp[List.getD_eq_getElem?_getD,List.getElem?_set,hi]
 simp[List.getD_eq_getElem?_getD,List.getElem?_set,Ne.symm e]
 have e:i≠n:=by
  rintro rfl
  rw[hs]at hj
  have:j=k:=by omega
  subst this
  exact hne h8
 simp[List.getD_eq_getElem?_getD,List.getElem?_set,Ne.symm e]
theorem Pl.ext{b:List Sm}{f g:List Fl}(h:Ext b f g){i:Int}{r:List Fr}(p:Pl b f i r):Pl b g i r:=by
 induction p with
 | nil=>exact .nil
 | lp hi hs hk hb=>exact .lp (Nat.lt_of_lt_of_le hi h.len) ((h.stmt _ hi).trans hs) hk hb
 | @leaf i k r hi hs hk hb p ih=>
  have hne:=iR hb
  refine .leaf (Nat.lt_of_lt_of_le hi h.len) ((h.stmt _ hi).trans hs) hk hb ?_
  rw[h.same _ hi _ hs hne.2.2];exact ih
 | seq hb p ih=>exact .seq hb ih
 | @cond i k x y r hi hs hk hb p1 p2 ih1 ih2=>
  have hne:(b.getD k default).kind≠8:=by omega
  refine .cond (Nat.lt_of_lt_of_le hi h.len) ((h.stmt _ hi).trans hs) hk hb ?_ ?_
  rw[h.same _ hi _ hs hne];exact ih1
  rw[h.same _ hi _ hs hne];exact ih2
 | loop hi hs hk hb=>exact .loop (Nat.lt_of_lt_of_le hi h.len) ((h.stmt _ hi).trans hs) hk hb
structure Lp where
  s:Sm
  a:Nat
  x:Tr
  r:List Fr
def aY(b:List Sm):Tr→List Fr→List Lp
  | .node s a [x,y],r=>if s.kind=1 then aY b x (.st y::r)++aY b y r else aY b x r++aY b y r
  | .node s a [x],r=>⟨s,a.toNat,x,r⟩::aY b x [.lp (bb b a.toNat)]
  | _,_=>[]
def LpAt(b:List Sm)(f:List Fl)(i:Nat)(q:Lp):Prop:=
  i<f.length∧(f.getD i default).stmt=(q.a:Nat)∧Pl b f (f.getD i default).next [.st q.x,.lp (bb b q.a)]∧Pl b f (f.getD i default).other q.r
structure Bld(b:List Sm)(t:Tr)(r:List Fr)(f:List Fl)(g:List Fl×Int):Prop where
  ext:Ext b f g.1
  pl:Pl b g.1 g.2 (.st t::r)
  old: ∀i,i<f.length→g.1.getD i default=f.getD i default
  new: ∀i,f.length≤i→i<g.1.length→∀k:Nat,(g.1.getD i default).stmt=(k:Nat)→(b.getD k default).kind=8→∃q∈aY b t r,LpAt b g.1 i q
  all: ∀q∈aY b t r,∃i,f.length≤i∧LpAt b g.1 i q
theorem LpAt.ext{b:List Sm}{f g:List Fl}{i:Nat}{q:Lp}(h:LpAt b f i q)(he:Ext b f g)(ho:g.getD i default=f.getD i default):LpAt b g i q:=by
 obtain⟨h1,h2,h3,h4⟩:=h
 refine⟨Nat.lt_of_lt_of_le h1 he.len,by rw[ho];exact h2,by rw[ho];exact h3.ext he,by rw[ho];exact h4.ext he⟩
theorem ew{b:List Sm}{s:Sm}{a:Int}{x y:Tr}{r:List Fr}:aY b (.node s a [x,y]) r=if s.kind=1 then aY b x (.st y::r)++aY b y r else aY b x r++aY b y r:=by rw[aY]
theorem jJ{b:List Sm}{s:Sm}{a:Int}{x:Tr}{r:List Fr}:aY b (.node s a [x]) r=⟨s,a.toNat,x,r⟩::aY b x [.lp (bb b a.toNat)]:=by rw[aY]
theorem jK{b:List Sm}{s:Sm}{a:Int}{r:List Fr}:aY b (.node s a []) r=[]:=by rw[aY]<;>simp
theorem gi{b:List Sm}: ∀{t:Tr} {k k':Nat},ci b k=some (t,k')→∀{nx:Int} {f:List Fl} {r:List Fr},Pl b f nx r→Bld b t r f (av t nx f)
 | .node s a [x,y],k,k',h,nx,f,r,hp=>by
  obtain⟨e1,rfl,e3,e4,e5⟩:=cd h
  obtain rfl:=cY h
  obtain⟨k1,i1,i2⟩:=bZ e4
  obtain⟨k2,i3,i4⟩:=bZ i2
  rw[lU]
  by_cases hk:(b.getD k default).kind=1
  rw[if_pos hk]
  have hy:=gi i3 hp
  have hx:=gi i1 hy.pl
  have hl:=hy.ext.len
  refine⟨hy.ext.trans hx.ext,.seq hk hx.pl,fun i hi=>(hx.old i (by omega)).trans (hy.old i hi),fun i h1 h2 j h3 h4=>?_,fun q hq=>?_⟩
  rw[ew,if_pos hk]
  rcases Nat.lt_or_ge i (av y nx f).1.length with h5|h5
  rw[hx.old i h5]at h3
  obtain⟨q,hq,hl⟩:=hy.new i h1 h5 j h3 h4
  exact⟨q,List.mem_append_right _ hq,hl.ext hx.ext (hx.old i h5)⟩
  obtain⟨q,hq,hl⟩:=hx.new i h5 h2 j h3 h4
  exact⟨q,List.mem_append_left _ hq,hl⟩
  rw[ew,if_pos hk]at hq
  rcases List.mem_append.1 hq with hq|hq
  obtain⟨i,h1,h2⟩:=hx.all q hq;exact⟨i,by omega,h2⟩
  obtain⟨i,h1,h2⟩:=hy.all q hq;exact⟨i,h1,h2.ext hx.ext (hx.old i h2.1)⟩
  rw[if_neg hk]
  have hk7:(b.getD k default).kind=7:=by
   have h3:bl (b.getD k default).kind=2:=e5.symm
   unfold bl at h3
   split at h3
   omega
   split at h3
   assumption
   split at h3<;>omega
  have hx:=gi i1 hp
  have hy:=gi i3 (hp.ext hx.ext)
  have hl:=hx.ext.len
  have hl2:=hy.ext.len
  have hE:Ext b (av y nx (av x nx f).1).1 ((av y nx (av x nx f).1).1++[⟨((k:Nat):Int),(av x nx f).2,(av y nx (av x nx f).1).2⟩]):=Ext.app
  refine⟨(hx.ext.trans hy.ext).trans hE,?_,fun i hi=>(e8 (by omega)).trans ((hy.old i (by omega)).trans (hx.old i hi)),fun i h1 h2 j h3 h4=>?_,fun q hq=>?_⟩
  refine .cond (by simp) (by rw[eE]) e1 hk7 ?_ ?_
  rw[eE];exact(hx.pl.ext hy.ext).ext hE
  rw[eE];exact hy.pl.ext hE
  rw[ew,if_neg hk]
  simp only[cp,du]at h2
  rcases Nat.lt_or_ge i (av y nx (av x nx f).1).1.length with h6|h6
  rw[e8 h6]at h3
  rcases Nat.lt_or_ge i (av x nx f).1.length with h5|h5
  rw[hy.old i h5]at h3
  obtain⟨q,hq,hl⟩:=hx.new i h1 h5 j h3 h4
  exact⟨q,List.mem_append_left _ hq,(hl.ext hy.ext (hy.old i h5)).ext hE (e8 h6)⟩
  obtain⟨q,hq,hl⟩:=hy.new i h5 h6 j h3 h4
  exact⟨q,List.mem_append_right _ hq,hl.ext hE (e8 h6)⟩
  obtain rfl:i=(av y nx (av x nx f).1).1.length:=by omega
  rw[eE]at h3
  have:j=k:=by have h3:((k:Nat):Int)=(j:Nat):=h3;omega
  subst this
  omega
  rw[ew,if_neg hk]at hq
  rcases List.mem_append.1 hq with hq|hq
  obtain⟨i,h1,h2⟩:=hx.all q hq;exact⟨i,h1,(h2.ext hy.ext (hy.old i h2.1)).ext hE (e8 (Nat.lt_of_lt_of_le h2.1 hl2))⟩
  obtain⟨i,h1,h2⟩:=hy.all q hq;exact⟨i,by omega,h2.ext hE (e8 h2.1)⟩
 | .node s a [x],k,k',h,nx,f,r,hp=>by
  obtain⟨e1,rfl,e3,e4,e5⟩:=cd h
  obtain rfl:=cY h
  obtain⟨k1,i1,i2⟩:=bZ e4
  have hk8:(b.getD k default).kind=8:=kX e5.symm
  rw[oq]
  have hE0:Ext b f (f++[⟨((k:Nat):Int),0,nx⟩]):=Ext.app
  have hl0:(f++[(⟨((k:Nat):Int),0,nx⟩:Fl)]).length=f.length+1:=by simp
  have p0:Pl b (f++[⟨((k:Nat):Int),0,nx⟩]) (f.length:Nat) [.lp (bb b k)]:=.lp (by simp) (by rw[eE]) e1 hk8
  have hx:=gi i1 p0
  have hlx:=hx.ext.len
  obtain⟨R,hR⟩: ∃R,R=av x (f.length:Nat) (f++[⟨((k:Nat):Int),0,nx⟩]):=⟨_,rfl⟩
  rw[←hR]at hx hlx ⊢
  have hold:=hx.old f.length (by omega)
  rw[eE]at hold
  have hES:Ext b R.1 (R.1.set f.length ⟨(R.1.getD f.length default).stmt,R.2,(R.1.getD f.length default).other⟩):=Ext.set (k:=k) (by omega) (by rw[hold]) hk8
  have hnew:(R.1.set f.length ⟨(R.1.getD f.length default).stmt,R.2,(R.1.getD f.length default).other⟩).getD f.length default=⟨((k:Nat):Int),R.2,nx⟩:=by
   rw[hold];simp[List.getD_eq_getElem?_getD,List.getElem?_set,show f.length<R.1.length by omega]
  have hoth: ∀i,i≠f.length→(R.1.set f.length ⟨(R.1.getD f.length default).stmt,R.2,(R.1.getD f.length default).other⟩).getD i default=R.1.getD i default:=fun i hi=>by
   simp[List.getD_eq_getElem?_getD,List.getElem?_set,Ne.symm hi]
  have hE:=(hE0.trans hx.ext).trans hES
  have hself:LpAt b (R.1.set f.length ⟨(R.1.getD f.length default).stmt,R.2,(R.1.getD f.length default).other⟩) f.length ⟨b.getD k default,k,x,r⟩:=by
   refine⟨by simp;omega,by rw[hnew],?_,?_⟩
   rw[hnew];exact hx.pl.ext hES
   rw[hnew];exact hp.ext hE
  refine⟨hE,.loop (by simp;omega) (by rw[hnew]) e1 hk8,fun i hi=>(hoth i (by omega)).trans ((hx.old i (by omega)).trans (e8 hi)),fun i h1 h2 j h3 h4=>?_,fun q hq=>?_⟩
  rw[jJ]
  by_cases e:i=f.length
  subst e;exact⟨_,List.mem_cons_self,hself⟩
  rw[hoth i e]at h3
  simp only[List.length_set]at h2
  obtain⟨q,hq,hl⟩:=hx.new i (by omega) h2 j h3 h4
  exact⟨q,List.mem_cons_of_mem _ hq,hl.ext hES (hoth i e)⟩
  rw[jJ]at hq
  rcases List.mem_cons.1 hq with rfl|hq
  exact⟨f.length,cQ _,hself⟩
  obtain⟨i,h1,h2⟩:=hx.all q hq;exact⟨i,by omega,h2.ext hES (hoth i (by omega))⟩
 | .node s a [],k,k',h,nx,f,r,hp=>by
  obtain⟨e1,rfl,e3,e4,e5⟩:=cd h
  obtain rfl:=cY h
  have h0:bl (b.getD k default).kind=0:=e5.symm
  have hne:=iR h0
  rw[ou]
  refine⟨Ext.app,.leaf (by simp) (by rw[eE]) e1 h0 (by rw[eE];exact hp.ext Ext.app),fun i hi=>e8 hi,fun i h1 h2 j h3 h4=>?_,fun q hq=>by rw[jK]at hq;cases hq⟩
  simp only[cp,du]at h2
  obtain rfl:i=f.length:=by omega
  rw[eE]at h3
  have:j=k:=by have h3:((k:Nat):Int)=(j:Nat):=h3;omega
  subst this
  exact absurd h4 hne.2.2
 | .node s a (x::y::z::ks),k,k',h,nx,f,r,hp=>by
  obtain⟨e1,rfl,e3,e4,e5⟩:=cd h
  have h2:=(cN (b.getD k default).kind).2
  simp only[dW]at e5
  omega
def ru(b:List Sm):Nat→List Int
  | 0=>[]
  | i+1=>ru b i++if(b.getD i default).kind=8 then[(i:Int)]else[]
theorem iL{b:List Sm}: ∀{i:Nat},(ru b i).length=bb b i
 | 0=>rfl
 | i+1=>by rw[ru,bb,cp,iL];split<;>simp
theorem gI{b:List Sm}{i j:Nat}(h:i≤j):bb b i≤bb b j:=by
 induction h with
 | refl=>exact cQ _
 | step _ ih=>rw[bb];omega
theorem vE{b:List Sm}: ∀{j i:Nat},i<j→(b.getD i default).kind=8→(ru b j).getD (bb b i) default=(i:Int)
 | j+1,i,hi,h8=>by
  rw[ru]
  rcases Nat.lt_or_ge i j with h|h
  have h1:=gI (b:=b) (show i+1≤j by omega)
  rw[bb,if_pos h8]at h1
  rw[List.getD_eq_getElem?_getD,List.getElem?_append_left (by rw[iL];omega),←List.getD_eq_getElem?_getD]
  exact vE h h8
  obtain rfl:i=j:=by omega
  rw[if_pos h8,List.getD_eq_getElem?_getD,List.getElem?_append_right (by rw[iL];exact cQ _),iL]
  simp
variable{pre post:List Tm}
theorem zS(hb:b.length≤1000):MQ h1 h2 51 [ptr [fd pre,kv b,fd post]] [] (Plain (bO (ru b b.length))):=by
 refine MC.data (jB 29 h1 h2 Tryz.func51 Z fun O hF=>?_)
 refine ac (js Z (aN (hp (bz O Z Z Z) Z (js Z (jn (ae (ac (js Z (jn (ak (ap (X:=Nat) (fun i=>⟨[(0,ptr [fd pre,kv b,fd post]),(3,.c (.rs 900 0 (ru b i).length)),(4,eI i)],[(900,aE (ru b i))]⟩) (fun i=>i≤b.length) (fun i=>b.length-i) 0 ((aa 5 900 Z Z).trans (Ent.to ⟨Z,Z,Z,tv⟩ Z)) ?_ (fun i hi=>?_))))))))))))
 exact cG _
 refine ae (ac (jd Z (js Z (cW Z (js Z (jn (zc Z (fun z12=>?_) (fun z12=>?_))))))))
 refine af (ae (ak (ac (jd Z (js Z ?_)))))
 have hil:i<b.length:=by have:=bt z12;omega
 have hwl:=iL (b:=b) (i:=i)
 have hwn:=gB (b:=b) (k:=i)
 refine st (aQ O Z Z Z Z Z Z Z Z (dx hil)) Z (jc Z (jn (zc Z (fun z23=>?_) (fun z23=>?_))))
 refine ag (jb Z (hp (bz O Z Z Z) Z (hp (cu (zs:=(ru b i++[(i:Int)]).map fun n=>[.int .i64 n]) (n:=(ru b i++[(i:Int)]).length) O Z Z Z Z Z Z Z Z Z Z Z Z Z Z Z Z (.row Z (by simp)) Z Z (by decide) Z (by simp;omega) (by simp;omega) (by simp) (by simp)) Z (js Z (jn (ag (js Z (ji Z (js Z (jn ?_))))))))))
 have hw:ru b (i+1)=ru b i++[(i:Int)]:=by rw[ru,if_pos (bt z23)]
 refine⟨i+1,((ah [27] (e':=[(0,_),(3,_),(4,_)]) Z Z ⟨Z,Z,Z,tv⟩ Z).trans (aa 27 900 Z Z)).trans (Ent.to ⟨Z,by rw[hw];rfl,Z,tv⟩ (by rw[hw];rfl)),by omega,by omega⟩
 refine af (ag (js Z (ji Z (js Z (jn ?_)))))
 have hw:ru b (i+1)=ru b i:=by rw[ru,if_neg (b9 z23),List.append_nil]
 refine⟨i+1,(ah [900] (e':=[(0,_),(3,_),(4,_)]) Z Z ⟨Z,Z,Z,tv⟩ Z).trans (Ent.to ⟨Z,by rw[hw];rfl,Z,tv⟩ (by rw[hw];rfl)),by omega,by omega⟩
 refine aR (ac (jb Z (jr ?_)))
 refine eR Z ?_
 obtain rfl:i=b.length:=by have:=b9 z12;omega
 exact .v (.c (.whole Z (bA _).symm))
theorem FG:MQ h1 h2 82 [ptr [fd pre,kv b,fd post],eI (-1)] [] (Plain (bM pre)):=by
 refine MC.data (jB 25 h1 h2 Tryz.func82 Z fun O hF=>?_)
 refine ac (js Z (jn (ae (ac (jb Z (jn (zc Z (fun z6=>?_) (fun z6=>?_))))))))
 refine ac (jd Z (aj O Z Z Z Z (C9 (ts:=pre) h1 h2) (ab Z) Z Z Z Z (B0:=12000) Z Z (js Z (jr ?_))))
 refine eR Z ?_
 exact .v (.c .d)
 exact absurd z6 (by decide)
variable{n:Nat}
theorem FF{i:Nat}(hb:b.length≤1000)(hi:i<b.length)(hn:n<bb b b.length)(hw:(ru b b.length).getD n default=(i:Int)):MQ h1 h2 82 [ptr [fd pre,kv b,fd post],eI (n:Nat)] [] (Plain (bM (b.getD i default).facts)):=by
 refine MC.data (jB 25 h1 h2 Tryz.func82 Z fun O hF=>?_)
 have hwl:=iL (b:=b) (i:=b.length)
 refine ac (js Z (jn (ae (ac (jb Z (jn (zc Z (fun z6=>?_) (fun z6=>?_))))))))
 exact absurd (bt z6) (by omega)
 refine af (ae (jw [5,0,1] Z (fJ [_,_,_,_,_,_,_,_,_,_,_,_,_,_] [pn [] 0 1,pn [0] 0 1,pn [0,1] 0 1,pn [0,1,2] 0 1,p0,pe [4] 0,pn [] 0 1,pn [4,5,6] 1 1,pn (rg 4 4) 1 1,pn (rg 0 9) 1 1,pn (rg 0 10) 1 1,pn (rg 0 11) 1 1,pe (rg 0 12) 1,pn (rg 0 13) 2 2] [5,12] [_,_,_] (ai (kc Z (V Z)) (ai (kc Z (V Z)) (ai (kc Z (V Z)) (ai (kc Z (V Z)) (kc Z (ai (bB O (B0:=18000) Z Z Z Z (zS (pre:=pre) (post:=post) (b:=b) h1 h2 hb) (ab Z) Z Z Z Z Z) (ai (kc Z (V Z)) (ai ((aQ O Z Z Z Z Z Z Z Z (dx (by omega))).cast (v':=ptr [.int .i64 (i:Nat)]) (by rw[hw])) (kc Z (ai (aQ O Z Z Z Z Z Z Z Z (dx hi)) (kc Z (kc Z (ai (bB O (B0:=25000) Z Z Z Z (C9 (ts:=(b.getD i default).facts) h1 h2) (ab Z) Z Z Z Z Z) (kc Z trivial)))))))))))))) ?_)))
 refine jw [4,5,0,1] Z (bJ ?_)
 refine dJ ?_
 refine eR Z ?_
 exact .v (.c .d)
def mA(i:Nat):List Tm:=(List.range i).map iC
theorem jZ{i:Nat}:(mA i).length=i:=by simp[mA]
theorem ud{i:Nat}:mA (i+1)=mA i++[iC i]:=by simp[mA,List.range_succ]
theorem DK:MQ h1 h2 81 [] [] (Plain (bM (mA 4))):=by
 refine MC.data (jB 22 h1 h2 Tryz.func81 Z fun O hF=>?_)
 refine ac (js Z (aN (hp (bz O Z Z Z) Z (am ?_))))
 refine js Z (jn (ae (ac (js Z (jn (ak (ap (X:=Nat) (fun i=>⟨[(1,.c (.rs 900 0 i)),(2,eI i)],[(900,aD (mA i))]⟩) (fun i=>i≤4) (fun i=>4-i) 0 ((c9 4 Z).trans ((aa 4 900 Z Z).trans (Ent.to ⟨Z,Z,tv⟩ Z))) ?_ (fun i hi=>?_))))))))
 exact cG _
 refine ae (ac (jb Z (jn (zc Z (fun z6=>?_) (fun z6=>?_)))))
 refine af (ae (ak (ac (js Z (ji Z (hp (f6 O Z Z Z Z Z Z Z Z Z (by first|omega|(simp at *;omega)) (by first|omega|(simp at *;omega)) (by first|omega|(simp at *;omega)) (by first|omega|(dsimp only;omega)|(simp only[bo]at *;omega)) (by first|omega|(simp at *;omega)) Z Z Z) Z (am ?_)))))))
 refine js Z (jl Z (am ?_))
 refine jo Z (am ?_)
 refine aN (jc Z (db Z Z (hp (bL (ex:=[.int .i64 0]) (xs':=((List.replicate i 0++[1]:List Int)).map (fun n=>[D.int .i64 n])) O Z Z Z Z Z Z Z Z Z Z Z Z Z Z ph pg) Z (am ?_))))
 refine jn (ag (an (Ent.freeze 11 (e':=[(1,_),(2,_),(3,_)]) Z (fe [1,2,3] Z) (.cons Z (.box (ck Z (.cons (.row Z (by simp)) .nil))) (.skip (cw Z .nil)))) ?_))
 refine jb Z (hp (aZ O Z Z Z Z Z Z Z Z Z Z Z) Z (am ?_))
 have hvl:=jZ (i:=i)
 refine hp (ko (own:=false) (xs:=(mA i).map Tm.cells) (ys:=[Tm.cells (iC i)]) (zs:=(mA (i+1)).map Tm.cells) (n:=i+1) O Z (.row Z (by simp;omega)) (.whole Z Z (.inr ⟨Z,Z⟩)) (by simp) Z (by simp;omega) (by simp;omega) (by rw[ud,List.map_append];rfl) (by simp[jZ])) Z (am ?_)
 refine am ?_
 refine js Z (jn (ag (js Z (ji Z (js Z (jn ?_))))))
 refine⟨i+1,((ah [20] (e':=[(1,_),(2,_)]) Z Z ⟨Z,Z,tv⟩ Z).trans (aa 20 900 Z Z)).trans (Ent.to ⟨Z,Z,tv⟩ Z),by have:=bt z6;omega,by have:=bt z6;omega⟩
 refine aR (ac (jb Z (jr ?_)))
 refine eR Z ?_
 obtain rfl:i=4:=by have:=b9 z6;omega
 exact .v (.c (.whole Z (by simp[jZ])))
def w0(fs:List Tm):Pw:=⟨mA 4,fs,[],4⟩
def g0:Gs:=⟨[],[],false⟩
theorem wZ{n:Nat}{fs:List Tm}(h:fs.length+n≤64):WOk n (w0 fs):=⟨jZ,by show∀t∈mA 4,t.ok=true;decide,h,by show(0:Nat)+n≤64;omega,by show(4:Nat)≤10;decide⟩
theorem zI:GOk 0 g0:=⟨by show(0:Nat)≤201;decide,fun _=>by show(0:Nat)≤200;decide,cQ _⟩
def Gy(f:List Fl)(idx e:Int):Nat→Int
  | 0=>e
  | j+1=>if(f.getD j default).stmt=idx then(j:Int)else Gy f idx e j
theorem xY{f:List Fl}{idx e:Int}: ∀{j i:Nat},i<j→(f.getD i default).stmt=idx→∃p:Nat,p<j∧Gy f idx e j=(p:Int)∧(f.getD p default).stmt=idx
 | j + 1,i,hi,hs=>by
  rw[Gy]
  split
  rename_i h;exact⟨j,by omega,rfl,h⟩
  rename_i h
  obtain⟨p,h1,h2,h3⟩:=xY (e:=e) (show i<j by
   rcases Nat.lt_or_ge i j with h4|h4
   · exact h4
   · obtain rfl:i=j:=by omega
     exact absurd hs h) hs
  exact⟨p,by omega,h2,h3⟩
variable{E:Pe}
theorem FZ(hbl:b.length≤30)(hT:ci b 0=some (t,b.length))(hck:t.cok b.length)(hnd:t.nodes≤30)(hE:EOk E b)(hpl:pre.length≤6)(hL:10000000≤L):MQ h1 h2 52 [ptr [fd pre,kv b,fd E.post],eI (-1)] [] (aO (.c (.pt 0 0 0)) (kA (pP pre b E.post) (dB (av t (-1) []).1) (-1) (eM bp E (-1) 31 [.st t] (w0 pre) g0))):=by
 refine MC.shift 500 Z (MC.keep [500,505,506] (bs:=[gA (pP pre b E.post) (dB (av t (-1) []).1) (-1) (eM bp E (-1) 31 [.st t] (w0 pre) g0) 505 506,bU (eM bp E (-1) 31 [.st t] (w0 pre) g0).paths,bV (eM bp E (-1) 31 [.st t] (w0 pre) g0).conds]) Z Z (jB 65 h1 h2 Tryz.func52 Z fun O hF=>?_))
 have hfl:=(fc hck (nx:= -1) (f:=[])).2
 have hB:=gi hT (nx:= -1) (f:=[]) (r:=[]) .nil
 refine ac (js Z (aN (jd Z (hp (bz O Z Z Z) Z (am ?_)))))
 refine ao O [18] (bin:=[fN []]) Z Z Z Z (t8 (b:=b) h1 h2 (by omega) hT hck (-1) [] (by show(0:Nat)+t.nodes≤2000;omega)) Z Z Z Z Z Z (B0:=20000) Z Z (am ?_)
 refine jd Z (jc Z (aN (an (Ent.freeze 20001 (e':=[(0,_),(1,_),(5,_),(6,_)]) Z (.cons Z (.keep Z) (.cons Z (.keep Z) (.cons Z (.c (.row Z (bA _).symm)) (fe [6] Z)))) (.skip .nil)) ?_)))
 refine jc Z (hp (bz O Z Z Z) Z (am ?_))
 refine an (c9 26 Z) (am ?_)
 refine am ?_
 refine hp (bz O Z Z Z) Z (am ?_)
 refine an (c9 27 Z) (am ?_)
 refine am ?_
 refine js Z (jx Z (am ?_))
 refine js Z (aN (jb Z (jn (ae (ac (jb Z (jn (zc Z (fun z32=>?_) (fun z32=>?_)))))))))
 exact absurd (bt z32) (by decide)
 refine af (ac (aj O Z Z Z Z (DK h1 h2) (ab Z) Z Z Z Z (B0:=53000) Z Z (jb Z (aj O Z Z Z Z (FG (pre:=pre) (post:=E.post) (b:=b) h1 h2) (ab Z) Z Z Z Z (B0:=56000) Z Z (hp (bz O Z Z Z) Z (am ?_))))))
 refine an (Ent.freeze 56 (e':=[(0,_),(1,_),(8,_),(9,_),(52,_),(55,_),(56,_)]) Z (.cons Z (.keep Z) (.cons Z (.keep Z) (.cons Z (.keep Z) (.cons Z (.keep Z) (.cons Z (.keep Z) (.cons Z (.keep Z) (.cons Z (.c (.row Z Z)) .nil))))))) (cw Z (cw Z (cb Z (.skip .nil))))) ?_
 refine am ?_
 refine js Z (jl Z (am ?_))
 refine jo Z (am ?_)
 refine aN (jd Z (st ((V Z).cast (v':=eB false) (congrArg eB (by decide))) Z (ao O [29,26,27] (bin:=[gA (pP pre b E.post) (dB (av t (-1) []).1) (-1) g0 1 2,bU g0.paths,bV g0.conds]) Z Z Z Z (pT (pre:=pre) (b:=b) (fl:=(av t (-1) []).1) (frm:= -1) (E:=E) h1 h2 hE (by omega) (n:=31) (r:=[.st t]) (w:=w0 pre) (g:=g0) (c:=0) hB.pl (by show t.nodes+0<31;omega) (wZ (by omega)) zI (by have:=cC (show aF [.st t]≤30 by show t.nodes+0≤30;omega);rw[sY]at this;omega)) Z Z Z Z Z Z (B0:=64000) Z Z (am ?_))))
 refine aN (jb Z (jr ?_))
 refine⟨.inl Z,_,((aa 29 500 Z Z).trans (aa 64005 505 Z Z)).trans (aa 64006 506 Z Z),_,Z,Z,Z⟩
theorem FY(hbl:b.length≤30)(hT:ci b 0=some (t,b.length))(hck:t.cok b.length)(hnd:t.nodes≤30)(hE:EOk E b){q:Lp}(hq:q∈aY b t [])(hun: ∀p∈aY b t [],p.a=q.a→p=q)(hw:(ru b b.length).getD n default=(q.a:Int))(hn:n<bb b b.length)(hqk:q.a<b.length)(hq8:(b.getD q.a default).kind=8)(hn1:aF [.st q.x,.lp (bb b q.a)]≤30)(hn2:aF q.r≤30)(hL:20000000≤L):MQ h1 h2 52 [ptr [fd pre,kv b,fd E.post],eI (n:Nat)] [] (aO (.c (.pt 0 0 0)) (kA (pP pre b E.post) (dB (av t (-1) []).1) (n:Nat) (dC (eM bp E (n:Nat) 31 [.st q.x,.lp (bb b q.a)]) (eM bp E (n:Nat) 31 q.r) (w0 (b.getD q.a default).facts) (aG (b.getD q.a default).sum (w0 (b.getD q.a default).facts).vars).1 (aU (w0 (b.getD q.a default).facts) (b.getD q.a default).sum g0)))):=by
 refine MC.shift 500 Z (MC.keep [500,505,506] (bs:=[gA (pP pre b E.post) (dB (av t (-1) []).1) (n:Nat) (dC (eM bp E (n:Nat) 31 [.st q.x,.lp (bb b q.a)]) (eM bp E (n:Nat) 31 q.r) (w0 (b.getD q.a default).facts) (aG (b.getD q.a default).sum (w0 (b.getD q.a default).facts).vars).1 (aU (w0 (b.getD q.a default).facts) (b.getD q.a default).sum g0)) 505 506,bU (dC (eM bp E (n:Nat) 31 [.st q.x,.lp (bb b q.a)]) (eM bp E (n:Nat) 31 q.r) (w0 (b.getD q.a default).facts) (aG (b.getD q.a default).sum (w0 (b.getD q.a default).facts).vars).1 (aU (w0 (b.getD q.a default).facts) (b.getD q.a default).sum g0)).paths,bV (dC (eM bp E (n:Nat) 31 [.st q.x,.lp (bb b q.a)]) (eM bp E (n:Nat) 31 q.r) (w0 (b.getD q.a default).facts) (aG (b.getD q.a default).sum (w0 (b.getD q.a default).facts).vars).1 (aU (w0 (b.getD q.a default).facts) (b.getD q.a default).sum g0)).conds]) Z Z (jB 65 h1 h2 Tryz.func52 Z fun O hF=>?_))
 have hfl:=(fc hck (nx:= -1) (f:=[])).2
 have hB:=gi hT (nx:= -1) (f:=[]) (r:=[]) .nil
 have hwl:=iL (b:=b) (i:=b.length)
 have hff:=(iN (hE.st _ hqk)).2
 have hFl:(av t (-1) []).1.length≤30:=by have:([]:List Fl).length=0:=rfl;omega
 refine ac (js Z (aN (jd Z (hp (bz O Z Z Z) Z (am ?_)))))
 refine ao O [18] (bin:=[fN []]) Z Z Z Z (t8 (b:=b) h1 h2 (by omega) hT hck (-1) [] (by show(0:Nat)+t.nodes≤2000;omega)) Z Z Z Z Z Z (B0:=20000) Z Z (am ?_)
 refine jd Z (jc Z (aN (an (Ent.freeze 20001 (e':=[(0,_),(1,_),(5,_),(6,_)]) Z (.cons Z (.keep Z) (.cons Z (.keep Z) (.cons Z (.c (.row Z (bA _).symm)) (fe [6] Z)))) (.skip .nil)) ?_)))
 refine jc Z (hp (bz O Z Z Z) Z (am ?_))
 refine an (c9 26 Z) (am ?_)
 refine am ?_
 refine hp (bz O Z Z Z) Z (am ?_)
 refine an (c9 27 Z) (am ?_)
 refine am ?_
 refine js Z (jx Z (am ?_))
 refine js Z (aN (jb Z (jn (ae (ac (jb Z (jn (zc Z (fun z32=>?_) (fun z32=>?_)))))))))
 refine ac (js Z (aj O Z Z Z Z (zS (pre:=pre) (post:=E.post) (b:=b) h1 h2 (by omega)) (ab Z) Z Z Z Z (B0:=35000) Z Z (js Z (st ((aQ O Z Z Z Z Z Z Z Z (dx (by omega))).cast (v':=ptr [.int .i64 (q.a:Nat)]) (by rw[hw])) Z (jb Z (aN (js Z (jn (ak (ap (X:=Nat) (fun j=>⟨[(0,ptr [fd pre,kv b,fd E.post]),(1,eI (n:Nat)),(5,.c (.d (dB (av t (-1) []).1))),(8,.c (.pt 29 0 0)),(9,eI (Gy (av t (-1) []).1 (q.a:Nat) (av t (-1) []).2 j)),(10,eI (q.a:Nat)),(11,eI j)],[(26,bU []),(27,bV []),(29,gA (pP pre b E.post) (dB (av t (-1) []).1) (n:Nat) g0 26 27)]⟩) (fun j=>j≤(av t (-1) []).1.length) (fun j=>(av t (-1) []).1.length-j) 0 ((ah [26,27,29] (e':=[(0,_),(1,_),(5,_),(8,_),(9,_),(10,_),(11,_)]) Z Z ⟨Z,Z,Z,Z,Z,Z,Z,tv⟩ Z).trans (Ent.to ⟨Z,Z,Z,Z,Z,Z,Z,tv⟩ Z)) ?_ (fun j hi=>?_)))))))))))
 exact cG _
 refine ae (ac (jb Z (cW Z (js Z (jn (zc Z (fun z41=>?_) (fun z41=>?_)))))))
 refine af (ae (ak (ac (jb Z ?_))))
 have hjl:j<(av t (-1) []).1.length:=by have:=bt z41;omega
 refine st (aQ O Z Z Z Z Z Z Z Z (dx hjl)) Z (jd Z (jn (zc Z (fun z50=>?_) (fun z50=>?_))))
 refine ag (jb Z (jn (ag (js Z (ji Z (js Z (jn ?_)))))))
 refine⟨j+1,(ah [26,27,29] (e':=[(0,_),(1,_),(5,_),(8,_),(9,_),(10,_),(11,_)]) Z Z ⟨Z,Z,Z,Z,Z,Z,Z,tv⟩ Z).trans (Ent.to ⟨Z,Z,Z,Z,by rw[Gy,if_pos (bt z50)];rfl,Z,Z,tv⟩ Z),by omega,by omega⟩
 refine af (ag (js Z (ji Z (js Z (jn ?_)))))
 refine⟨j+1,(ah [26,27,29] (e':=[(0,_),(1,_),(5,_),(8,_),(9,_),(10,_),(11,_)]) Z Z ⟨Z,Z,Z,Z,Z,Z,Z,tv⟩ Z).trans (Ent.to ⟨Z,Z,Z,Z,by rw[Gy,if_neg (b9 z50)];rfl,Z,Z,tv⟩ Z),by omega,by omega⟩
 refine aR (ac (aj O Z Z Z Z (DK h1 h2) (ab Z) Z Z Z Z (B0:=53000) Z Z (jb Z (aj O Z Z Z Z (FF (pre:=pre) (post:=E.post) (b:=b) (n:=n) (i:=q.a) h1 h2 (by omega) hqk hn hw) (ab Z) Z Z Z Z (B0:=56000) Z Z (hp (bz O Z Z Z) Z (am ?_))))))
 refine an (Ent.freeze 56 (e':=[(0,_),(1,_),(8,_),(9,_),(52,_),(55,_),(56,_)]) Z (.cons Z (.keep Z) (.cons Z (.keep Z) (.cons Z (.keep Z) (.cons Z (.keep Z) (.cons Z (.keep Z) (.cons Z (.keep Z) (.cons Z (.c (.row Z Z)) .nil))))))) (cw Z (cw Z (cb Z (.skip .nil))))) ?_
 refine am ?_
 refine js Z (jl Z (am ?_))
 refine jo Z (am ?_)
 refine aN (js Z ?_)
 obtain rfl:j=(av t (-1) []).1.length:=by have:=b9 z41;omega
 obtain⟨i0,hi0,hl0⟩:=hB.all q hq
 obtain⟨p,hp1,hp2,hp3⟩:=xY (e:=(av t (-1) []).2) hl0.1 hl0.2.1
 obtain⟨q1,hq1,hl1⟩:=hB.new p (cG _) hp1 q.a hp3 hq8
 obtain rfl:q1=q:=hun q1 hq1 (by have:=hl1.2.1;rw[hp3]at this;omega)
 rw[hp2]
 refine jc Z (st ((V Z).cast (v':=eB true) (congrArg eB (decide_eq_true (by omega)))) Z (ao O [29,26,27] (bin:=[gA (pP pre b E.post) (dB (av t (-1) []).1) (n:Nat) g0 1 2,bU g0.paths,bV g0.conds]) Z Z Z Z (FE (pre:=pre) (b:=b) (fl:=(av t (-1) []).1) (frm:=(n:Nat)) (E:=E) h1 h2 hE (by omega) (n:=31) (w:=(w0 (b.getD q1.a default).facts)) (g:=g0) (c:=0) Z hp1 hp3 hqk hq8 hl1.2.2.1 hl1.2.2.2 (by omega) (by omega) (wZ (by omega)) zI (by have a1:=cC hn1;have a2:=cC hn2;rw[sY]at a1 a2;omega)) Z Z Z Z Z Z (B0:=64000) Z Z (am ?_)))
 refine aN (jb Z (jr ?_))
 refine⟨.inl Z,_,((aa 29 500 Z Z).trans (aa 64005 505 Z Z)).trans (aa 64006 506 Z Z),_,Z,Z,Z⟩
 exact absurd (b9 z32) (by omega)
instance:Inhabited Lp:=⟨⟨default,0,.node default 0 [],[]⟩⟩
structure Lps(b:List Sm)(t:Tr)(k k':Nat)(r:List Fr):Prop where
  num:(aY b t r).map (fun q=>bb b q.a)=List.range' (bb b k) (bb b k'-bb b k)
  at_: ∀q∈aY b t r,k≤q.a∧q.a<k'∧(b.getD q.a default).kind=8∧q.s=b.getD q.a default
  size: ∀q∈aY b t r,aF q.r≤t.nodes+aF r∧q.x.nodes≤t.nodes
theorem yr{a b c:Nat}(h:a≤b)(g:b≤c):List.range' a (b-a)++List.range' b (c-b)=List.range' a (c-a):=by
 have:=List.range'_append (s:=a) (m:=b-a) (n:=c-b) (step:=1)
 rw[Nat.one_mul,show a+(b-a)=b by omega,show b-a+(c-b)=c-a by omega]at this
 exact this
theorem wY{b:List Sm}: ∀{t:Tr} {k k':Nat},ci b k=some (t,k')→∀{r:List Fr},Lps b t k k' r
 | .node s a [x,y],k,k',h,r=>by
  obtain⟨e1,rfl,e3,e4,e5⟩:=cd h
  obtain rfl:=cY h
  obtain⟨k1,i1,i2⟩:=bZ e4
  obtain⟨k2,i3,i4⟩:=bZ i2
  obtain rfl:=eA i4
  have hl1:=jI i1;have hl2:=jI i3
  have hy:=wY i3 (r:=r)
  have h8: ¬(b.getD k default).kind=8:=by
   intro h8;rw[h8]at e5;revert e5;simp only[dW,List.length_nil];decide
  have hk1:bb b (k+1)=bb b k:=by rw[bb,if_neg h8];rfl
  have m1:=gI (b:=b) (show k+1≤k1 by omega)
  have m2:=gI (b:=b) (show k1≤k' by omega)
  have hn:Tr.nodes (.node (b.getD k default) (k:Nat) [x,y])=1+(x.nodes+y.nodes):=by simp[Tr.nodes,Trs.nodes]
  have key: ∀rx,aF rx≤y.nodes+aF r→Lps b x (k+1) k1 rx→∀l,l=aY b x rx++aY b y r→aY b (.node (b.getD k default) (k:Nat) [x,y]) r=l→Lps b (.node (b.getD k default) (k:Nat) [x,y]) k k' r:=fun rx hrx hx l hl he=>by
   refine⟨?_,fun q hq=>?_,fun q hq=>?_⟩
   · rw[he,hl,List.map_append,hx.num,hy.num,hk1]
     exact yr (by omega) m2
   · rw[he,hl]at hq
     rcases List.mem_append.1 hq with hq|hq
     · have:=hx.at_ q hq;exact⟨by omega,by omega,this.2.2⟩
     · have:=hy.at_ q hq;exact⟨by omega,by omega,this.2.2⟩
   · rw[he,hl]at hq
     rw[hn]
     rcases List.mem_append.1 hq with hq|hq
     · have:=hx.size q hq;omega
     · have:=hy.size q hq;omega
  by_cases hk:(b.getD k default).kind=1
  exact key (.st y::r) (cQ _) (wY i1) _ Z (by rw[ew,if_pos hk])
  exact key r (by omega) (wY i1) _ Z (by rw[ew,if_neg hk])
 | .node s a [x],k,k',h,r=>by
  obtain⟨e1,rfl,e3,e4,e5⟩:=cd h
  obtain rfl:=cY h
  obtain⟨k1,i1,i2⟩:=bZ e4
  obtain rfl:=eA i2
  have hk8:(b.getD k default).kind=8:=kX e5.symm
  have hl1:=jI i1
  have hx:=wY i1 (r:=[.lp (bb b k)])
  have hk1:bb b (k+1)=bb b k+1:=by rw[bb,if_pos hk8]
  have m1:=gI (b:=b) (show k+1≤k' by omega)
  have hn:Tr.nodes (.node (b.getD k default) (k:Nat) [x])=1+x.nodes:=by simp[Tr.nodes,Trs.nodes]
  have he:aY b (.node (b.getD k default) (k:Nat) [x]) r=⟨b.getD k default,k,x,r⟩::aY b x [.lp (bb b k)]:=jJ
  refine⟨?_,fun q hq=>?_,fun q hq=>?_⟩
  rw[he,List.map_cons,hx.num,hk1,show bb b k'-bb b k=(bb b k'-(bb b k+1))+1 by omega,List.range'_succ]
  rw[he]at hq
  rcases List.mem_cons.1 hq with rfl|hq
  exact⟨cQ _,by show k<k';omega,hk8,Z⟩
  have:=hx.at_ q hq;exact⟨by omega,this.2.1,this.2.2⟩
  rw[he]at hq
  rw[hn]
  rcases List.mem_cons.1 hq with rfl|hq
  exact⟨by show aF r≤_;omega,by show x.nodes≤_;omega⟩
  have:=hx.size q hq
  have e0:aF [.lp (bb b k)]=0:=rfl
  omega
 | .node s a [],k,k',h,r=>by
  obtain⟨e1,rfl,e3,e4,e5⟩:=cd h
  obtain rfl:=cY h
  obtain rfl:=eA e4
  have hne:=iR (e5.symm:bl (b.getD k default).kind=0)
  have hk1:bb b (k+1)=bb b k:=by rw[bb,if_neg hne.2.2];rfl
  refine⟨?_,fun q hq=>(by rw[jK]at hq;cases hq),fun q hq=>(by rw[jK]at hq;cases hq)⟩
  rw[jK,hk1,Nat.sub_self];rfl
 | .node s a (x::y::z::ks),k,k',h,r=>by
  obtain⟨e1,rfl,e3,e4,e5⟩:=cd h
  have h2:=(cN (b.getD k default).kind).2
  simp only[dW]at e5
  omega
def tS(b:List Sm)(post:List Tm):Pe:=⟨post,fun n=>(b.getD ((ru b b.length).getD n default).toNat default).facts,fun a=>bb b a.toNat⟩
theorem Ez{b:List Sm}{post:List Tm}(hp:terms post 6=true)(hs: ∀k,k<b.length→bi (b.getD k default)=true):EOk (tS b post) b:=
  ⟨mW hp,hs,fun k hk h8=>by simp only[tS];rw[vE hk h8];rfl,fun k hk h8=>by simp only[tS];rfl⟩
def cL(la:dv)(E:Pe)(b:List Sm)(t:Tr)(pre:List Tm):Nat→Gs→Gs
  | 0,g=>eM la E (-1) 31 [.st t] (w0 pre) g
  | n+1,g=>dC (eM la E (n:Nat) 31 [.st ((aY b t []).getD n default).x,.lp n]) (eM la E (n:Nat) 31 ((aY b t []).getD n default).r) (w0 ((aY b t []).getD n default).s.facts) (aG ((aY b t []).getD n default).s.sum (mA 4)).1 (aU (w0 ((aY b t []).getD n default).s.facts) ((aY b t []).getD n default).s.sum g)
theorem mO{b:List Sm}{t:Tr}(hT:ci b 0=some (t,b.length)){n:Nat}(hn:n<bb b b.length):(aY b t []).getD n default∈aY b t []∧bb b ((aY b t []).getD n default).a=n:=by
 have h:=(wY hT (r:=[])).num
 have hl:=congrArg List.length h
 have h0:bb b 0=0:=rfl
 rw[bA,List.length_range',h0]at hl
 have hlt:n<(aY b t []).length:=by omega
 have e:(aY b t []).getD n default=(aY b t [])[n]:=by simp[List.getD_eq_getElem?_getD,hlt]
 refine⟨by rw[e];exact List.getElem_mem hlt,?_⟩
 have hg:((aY b t []).map (fun q=>bb b q.a))[n]'(by rw[bA];exact hlt)=n:=by
  simp only[h,List.getElem_range'];omega
 rw[List.getElem_map]at hg
 rw[e];exact hg
theorem CH{b:List Sm}{t:Tr}(hT:ci b 0=some (t,b.length)){p q:Lp}(hp:p∈aY b t [])(hq:q∈aY b t [])(he:p.a=q.a):p=q:=by
 have h:=(wY hT (r:=[])).num
 obtain⟨i,hi,rfl⟩:=List.mem_iff_getElem.1 hp
 obtain⟨j,hj,rfl⟩:=List.mem_iff_getElem.1 hq
 have h1: ∀i (hi:i<(aY b t []).length),bb b (aY b t [])[i].a=i:=fun i hi=>by
  have hg:((aY b t []).map (fun q=>bb b q.a))[i]'(by rw[bA];exact hi)=i:=by
    have h0:bb b 0=0:=rfl
    simp only[h,List.getElem_range'];omega
  rw[List.getElem_map]at hg
  exact hg
 have e1:=h1 i hi
 have e2:=h1 j hj
 rw[he,e2]at e1
 subst e1;rfl
theorem Iw{L:Nat}(h1:4096≤L)(h2:L≤1073741824){pre:List Tm}{b:List Sm}{t:Tr}{E:Pe}(hbl:b.length≤30)(hT:ci b 0=some (t,b.length))(hck:t.cok b.length)(hnd:t.nodes≤30)(hE:EOk E b)(hpl:pre.length≤6)(hL:20000000≤L){n:Nat}(hn:n≤bb b b.length) :
  MC Tryz.prog L 52 [ptr [fd pre,kv b,fd E.post],eI ((n:Int)-1)] [] (aO (.c (.pt 0 0 0)) (kA (pP pre b E.post) (dB (av t (-1) []).1) ((n:Int)-1) (cL bp E b t pre n g0))):=by
 cases n with
 | zero=>exact FZ h1 h2 hbl hT hck hnd hE hpl (by omega)
 | succ n=>
  obtain⟨hq,hqa⟩:=mO hT (n:=n) (by omega)
  have hat:=(wY hT (r:=[])).at_ _ hq
  have hsz:=(wY hT (r:=[])).size _ hq
  have e0:aF []=0:=rfl
  have e:((n+1:Nat):Int)-1=(n:Nat):=by omega
  rw[e]
  have hw:(ru b b.length).getD n default=(((aY b t []).getD n default).a:Int):=by
   have:=vE hat.2.1 hat.2.2.1
   rw[hqa]at this;exact this
  have:=FY h1 h2 hbl hT hck hnd hE hq (fun p hp he=>CH hT hp hq he) hw (by omega) hat.2.1 hat.2.2.1 (by show((aY b t []).getD n default).x.nodes+0≤30;omega) (by omega) hL (pre:=pre)
  rw[cL,←hat.2.2.2,hqa]at *
  exact this
abbrev vw(ss:List Sq):D:=.slc 3 (ss.map Sq.cells)
def gU(ss:List Sq):Bool:=ss.all dF&&decide ((ss.length:Int)≤60)
theorem zT{ss:List Sq}:MQ h1 h2 36 [.c (.d (vw ss))] [] (Plain (eB (gU ss))):=by
 refine jB 18 h1 h2 Tryz.func36 Z fun O hF=>?_
 have hl:ss.length≤L:=by simpa[As.fact,A.fact,M.fact,D.fact,Ds.fact]using hF.1.1
 refine ac (js Z (jn (ae (ac (js Z (jn (ak (ap (X:=Nat) (fun i=>⟨[(0,.c (.d (vw ss))),(3,eI i)],[]⟩) (fun i=>i≤ss.length∧∀j (h:j<ss.length),j<i→dF ss[j]=true) (fun i=>ss.length-i) 0 (Ent.env ⟨Z,Z,tv⟩) ?_ (fun i hi=>?_)))))))))
 exact⟨cG _,fun j h hj=>absurd hj (Nat.not_lt_zero j)⟩
 refine ae (ac (jb Z (cW Z (js Z (jn (zc Z (fun z7=>?_) (fun z7=>?_)))))))
 try simp only[bo]at z7
 refine af (ae (ak (ac (jb Z (jh Z Z (lo Z (c82 (s:=ss.getD i default) h1 h2) 14000 Z (js Z (jn (zc Z (fun z14=>?_) (fun z14=>?_))))))))))
 try simp only[bo]at z14
 refine ac (js Z (jr ?_))
 refine eR Z ?_
 rw[aw (by omega)]at z14
 rw[gU,iS i (by omega) z14,Bool.false_and]
 exact⟨Z,Z⟩
 try simp only[bo]at z14
 refine af (ag (js Z (ji Z (js Z (jn ?_)))))
 refine⟨i+1,Ent.env ⟨Z,Z,tv⟩,⟨by omega,fun j h hj=>?_⟩,by omega⟩
 by_cases e:j=i
 subst e;rw[aw h]at z14;exact z14
 exact hi.2 j h (by omega)
 try simp only[bo]at z7
 refine aR (ac (js Z (cW Z (jb Z (jr ?_)))))
 refine eR Z ?_
 rw[gU,jY (fun j hj=>hi.2 j hj (by omega)),Bool.true_and]
 exact⟨Z,Z⟩
structure PtOk(p:Pm)(t:Tr):Prop where
  len:p.body.length≤30
  tree:ci p.body 0=some (t,p.body.length)
  cok:t.cok p.body.length
  nodes:t.nodes≤30
  st: ∀k,k<p.body.length→bi (p.body.getD k default)=true
  pre:terms p.pre 6=true
  post:terms p.post 6=true
theorem PtOk.e{p:Pm}{t:Tr}(h:PtOk p t):EOk (tS p.body p.post) p.body:=Ez h.post h.st
def kD(la:dv)(p:Pm)(t:Tr)(n:Nat)(g:Gs):Gs:=cL la (tS p.body p.post) p.body t p.pre n g
theorem Fm{t:Tm}:MQ h1 h2 158 [cR t] [] (Rows (.tup [.agg [.d (.int .i64 (pM t).1.c),.rs 0 0 (pM t).1.xs.length],eB (pM t).2]) [aE (pM t).1.xs]):=by
 refine cq (jB 10 h1 h2 Tryz.func158 Z fun O hF=>?_)
 refine ac (jx Z (am ?_))
 refine jl Z (am ?_)
 refine js Z (jn (ae (ac (js Z (lo Z (mF (t:=t) h1 h2) 6000 Z (js Z (jn (zc Z (fun z6=>?_) (fun z6=>?_)))))))))
 refine ac (js Z (jo Z (am ?_)))
 refine js Z (jr ?_)
 have hok:t.ok=false:=by simpa using z6
 rw[show pM t=(⟨0,[]⟩,false)from if_neg (by rw[hok];decide)]
 refine⟨.inl Z,_,cf 2 900 1 true 1 Z Z Z,_,Z,[900],by decide,Z,Z,Z⟩
 refine af (ac (js Z (bS O (B0:=10000) Z Z Z Z (rD (t:=t) h1 h2) (ab Z) Z Z Z Z Z Z (am ?_))))
 refine jo Z (am ?_)
 refine js Z (jr ?_)
 have hok:t.ok=true:=by simpa using z6
 rw[show pM t=(t,true)from if_pos hok]
 refine⟨.inl Z,_,bK,_,Z,[10000],by decide,Z,Z,Z⟩
theorem Fn{t:Tm}{vs:List Tm}(ht:t.ok=true)(hv:fA vs 10=true)(hle:t.xs.length≤vs.length):MQ h1 h2 122 [cR t,bM vs] [] (Rows (.tup [.agg [.d (.int .i64 (aG t vs).1.c),.rs 0 0 (aG t vs).1.xs.length],eB (aG t vs).2]) [aE (aG t vs).1.xs]):=by
 refine cq (jB 64 h1 h2 Tryz.func122 Z fun O hF=>?_)
 have htl:=pW ht
 refine ac (jx Z (am ?_))
 refine jf [2,1] Z (jl Z (am ?_))
 refine js Z (jn (ae (ac (js Z (lo Z (mF (t:=t) h1 h2) 13000 Z (jb Z (jf [14,5,4,2,1] Z (ar 3 Z Z Z (fun hx=>nz hx Z (bj O hx Z Z Z Z (Ed (ts:=vs) (n:=10) h1 h2) (ab Z) Z Z Z Z Z Z Z (B0:=17000) Z (nz hx Z (AN.nil)))) Z Z (st (ay O Z Z Z Z Z) Z (jf [18,5,4,2,1] Z (jn (zc Z (fun z18=>?_) (fun z18=>?_)))))))))))))
 exact absurd z18 (by rw[hv,ht];decide)
 refine af (ac (jc Z (jf [22,5,4,2,1] Z (hp (aZ O Z Z Z Z Z Z Z Z Z Z Z) Z (am ?_)))))
 refine an (Ent.rowLe 23 Z (.cons (cr (.cons (.nil (sz:=1)) .nil)) .nil)) (am ?_)
 refine am ?_
 refine jf [23,5,4,2,1] Z (hp (bz O Z Z Z) Z (am ?_))
 refine jb Z (jf [7,6,5,4,2,1] Z (jn (ae (ac (jb Z (cW Z (js Z (jn (ak (ap (X:=Nat) (fun i=>⟨[(1,bM vs),(2,.c (.pt 2 0 0)),(4,.c (.pt 4 0 0)),(6,.c (.rs 906 0 (i+1))),(7,.c (.rs 907 0 (i+1))),(26,bO t.xs),(27,eI t.xs.length),(28,eI i)],[(2,.box [.d (.int .i64 t.c),.d (cK t.xs)]),(4,.box [.d (.int .i64 0),.d .nils]),(906,.row false 2 ((⟨t.c,[]⟩::vs.take i).map Tm.cells)),(907,aE (1::t.xs.take i))]⟩) (fun i=>i≤t.xs.length) (fun i=>t.xs.length-i) 0 ((((ah [2,4,23,24] (e':=[(1,_),(2,_),(4,_),(6,_),(7,_),(26,_),(27,_),(28,_)]) Z Z ⟨Z,Z,Z,Z,Z,Z,Z,Z,tv⟩ Z).trans (aa 23 906 Z Z)).trans (aa 24 907 Z Z)).trans (Ent.to ⟨Z,Z,Z,Z,Z,Z,Z,Z,tv⟩ Z)) ?_ (fun i hi=>?_)))))))))))
 exact cG _
 refine ac (js Z (jn (ae (zc Z (fun z29=>?_) (fun z29=>?_)))))
 refine af (ae (ak (ac (js Z (jh Z Z (jc Z (jf [9,8,29,1,2,4,6,7,26,27,28] Z (aN ?_))))))))
 have hil:i<t.xs.length:=by have:=bt z29;omega
 have hvl:vs.length≤10:=by have:=(wb hv).2;omega
 refine js Z (ji Z (jf [34,9,8,29,1,2,4,6,7,26,27,28] Z (hp (f6 O Z Z Z Z Z Z Z Z Z (by first|omega|(simp at *;omega)) (by first|omega|(simp at *;omega)) (by first|omega|(simp at *;omega)) (by first|omega|(dsimp only;omega)|(simp only[bo]at *;omega)) (by first|omega|(simp at *;omega)) Z Z Z) Z (am ?_))))
 refine js Z (jf [36,9,8,29,1,2,4,6,7,26,27,28] Z (jl Z (am ?_)))
 refine jo Z (am ?_)
 refine aN (jc Z (db Z Z (jf [40,10,36,9,8,29,1,2,4,6,7,26,27,28] Z (hp (bL (ex:=[.int .i64 0]) (xs':=((List.replicate i 0++[1]:List Int)).map (fun n=>[D.int .i64 n])) O Z Z Z Z Z Z Z Z Z Z Z Z Z Z ph pg) Z (am ?_)))))
 refine jn (ae (ac (jb Z (cW Z (js Z (jf [44,40,10,36,9,8,29,1,2,4,6,7,26,27,28] Z (jn (zc Z (fun z44=>?_) (fun z44=>?_)))))))))
 refine ag (jb Z (jh Z Z (js Z (jf [48,44,40,10,36,9,8,29,1,2,4,6,7,26,27,28] Z (jo Z (am ?_))))))
 refine jn (ag (jb Z (hp (aZ O Z Z Z Z Z Z Z Z Z Z Z) Z (am ?_))))
 refine jf [51,49,48,44,40,10,36,9,8,29,1,2,4,6,7,26,27,28] Z (hp (ko (own:=false) (xs:=((⟨t.c,[]⟩:Tm)::vs.take i).map Tm.cells) (ys:=[Tm.cells (vs.getD i default)]) (zs:=((⟨t.c,[]⟩:Tm)::vs.take (i+1)).map Tm.cells) (n:=i+2) O Z (.row Z (by simp;omega)) (.whole Z Z (.inr ⟨Z,Z⟩)) (by simp) Z (by simp;omega) (by simp;omega) (by rw[List.take_succ_eq_append_getElem (by omega),←List.cons_append,List.map_append,aw (by omega)];rfl) (by simp;omega)) Z (am ?_))
 refine an (ah [2,4,52,907] (e':=[(52,_),(9,_),(7,_),(1,_),(2,_),(4,_),(26,_),(27,_),(28,_)]) Z Z ⟨Z,Z,Z,Z,Z,Z,Z,Z,Z,tv⟩ Z) (am ?_)
 refine jb Z (jf [54,53,52,7,1,2,4,26,27,28] Z (hp (bz O Z Z Z) Z (am ?_)))
 refine jf [55,53,52,7,1,2,4,26,27,28] Z (hp (cu (zs:=(1::t.xs.take (i+1)).map fun n=>[.int .i64 n]) (n:=i+2) O Z Z Z Z Z Z Z Z Z Z Z Z Z Z Z Z (.row Z (by simp;omega)) Z Z (by decide) Z (by simp;omega) (by simp;omega) (by rw[show t.xs.take (i+1)=t.xs.take i++[t.xs.getD i default] by rw[List.take_succ_eq_append_getElem (by omega),aw (by omega)],←List.cons_append,List.map_append];rfl) (by simp;omega)) Z (am ?_))
 refine jb Z (jf [7,6,1,2,4,26,27,28] Z (jn (ag (ji Z (js Z (jn ?_))))))
 refine⟨i+1,(((ah [2,4,52,56] (e':=[(1,_),(2,_),(4,_),(6,_),(7,_),(26,_),(27,_),(28,_)]) Z Z ⟨Z,Z,Z,Z,Z,Z,Z,Z,tv⟩ Z).trans (aa 52 906 Z Z)).trans (aa 56 907 Z Z)),by omega,by omega⟩
 exact absurd z44 (by simp;omega)
 refine aR (ac ?_)
 have hvl:vs.length≤10:=by have:=(wb hv).2;omega
 obtain rfl:i=t.xs.length:=by have:=b9 z29;omega
 rw[List.take_length]
 refine an (Ent.freeze 906 (e':=[(6,_),(7,_),(4,_),(2,_)]) Z (.cons Z (.c (.row Z (by simp;omega))) (fe [7,4,2] Z)) (cb Z (cb Z (.skip (cw Z .nil))))) ?_
 refine an (Ent.freeze 907 (e':=[(6,_),(7,_),(4,_),(2,_)]) Z (.cons Z (.keep Z) (.cons Z (.c (.row Z (by simp))) (fe [4,2] Z))) (cb Z (cb Z (.skip .nil)))) ?_
 refine jb Z (aj O Z Z Z Z (B1 (ts:=⟨t.c,[]⟩::vs.take t.xs.length) (ms:=1::t.xs) h1 h2 (Cp ht hv) (by have:=(Small.of ht).xs;rw[List.all_cons,this];decide) (by simp;omega)) (ab Z) Z Z Z Z (B0:=61000) Z Z (jf [60,6,7,4,2] Z (bS O (B0:=62000) Z Z Z Z (Fm (t:=gV (⟨t.c,[]⟩::vs.take t.xs.length) (1::t.xs)) h1 h2) (ab Z) Z Z Z Z Z Z (am ?_))))
 refine jb Z (jf [63,62,6,7,4,2] Z (jo Z (am ?_)))
 refine js Z (jf [5,6,7,4,2] Z (jr ?_))
 rw[←AS]
 refine⟨.inl Z,_,bK,_,Z,[62000],by decide,Z,Z,Z⟩
structure Pc where
  post:D
  starts:D
  body:D
  loops:D
  behind:D
  num:List (Int×D)
abbrev aM(ps:List Pth):B:=.row true 5 (ps.map Pth.cells)
abbrev aK(ss:List Sq):B:=.row true 3 (ss.map Sq.cells)
abbrev iB(c:Pc)(g:Gs)(i j k:Nat):B:=.box [.d c.post,.d c.starts,.rs i 0 g.paths.length,.rs j 0 g.conds.length,.d (.bool g.bad),.d c.body,.d c.loops,.d c.behind,.mp k]
abbrev iW(frm:Int)(w:Pw)(i j k:Nat):B:=.box [.d (.int .i64 frm),.rs i 0 w.vars.length,.d .nils,.rs j 0 w.facts.length,.rs k 0 w.ev.length,.d (.int .i64 (w.sym:Int))]
abbrev iH(c:Pc)(g:Gs)(frm:Int)(w:Pw):List (Nat×B):=[(0,iB c g 1 2 3),(1,aM g.paths),(2,aK g.conds),(3,aX c.num),(4,iW frm w 5 6 7),(5,aD w.vars),(6,aD w.facts),(7,aE w.ev)]

variable{c:Pc}{g:Gs}
theorem Ij{k:Int}{xs:List Int}{ok:Bool}:MQ h1 h2 119 [.c (.pt 0 0 0),(.agg [.d (.int .i64 k),.rs 4 0 xs.length]),eB ok] [(0,iB c g 1 2 3),(1,aM g.paths),(2,aK g.conds),(3,aX c.num),(4,aE xs)] (aO (.agg [.d (.int .i64 k),.rs 4 0 xs.length]) [(0,iB c (g.flag (!ok)) 1 2 3),(1,aM (g.flag (!ok)).paths),(2,aK (g.flag (!ok)).conds),(3,aX c.num),(4,aE xs)]):=by
 refine MC.shift 500 Z (MC.keep [500,501,502,503,504] (bs:=[iB c (g.flag (!ok)) 501 502 503,aM (g.flag (!ok)).paths,aK (g.flag (!ok)).conds,aX c.num,aE xs]) Z Z (jH 13 [500,501,502,503,504] h1 h2 Tryz.func119 Z fun O hF=>?_))
 refine bJ ?_
 refine ac (jx Z (am ?_))
 refine jl Z (am ?_)
 refine jn (ae (ac (jb Z (jn (zc Z (fun z8=>?_) (fun z8=>?_))))))
 refine ag (jc Z (jo Z (am ?_)))
 refine aN (js Z (jo Z (am ?_)))
 refine jr ?_
 have hok:ok=false:=by simpa using z8
 subst hok
 rw[show g.flag (!false)=⟨g.paths,g.conds,true⟩from lQ]
 refine⟨.inl Z,_,bK,_,Z,Z,Z⟩
 refine af (ac (js Z (jo Z (am ?_))))
 refine jr ?_
 have hok:ok=true:=by simpa using z8
 subst hok
 rw[show g.flag (!true)=g from io]
 refine⟨.inl Z,_,bK,_,Z,Z,Z⟩
variable{frm:Int}{w:Pw}
theorem oB{t:Tm}(ht:t.ok=true)(hv:fA w.vars 10=true)(hle:t.xs.length≤w.vars.length):MQ h1 h2 74 [.c (.pt 0 0 0),.c (.pt 4 0 0),cR t] (iH c g frm w) (aO (cR (aG t w.vars).1) (iH c (aU w t g) frm w)):=by
 refine MC.shift 500 Z (MC.keep [500,501,502,503,504,505,506,507] (bs:=[iB c (aU w t g) 501 502 503,aM (aU w t g).paths,aK (aU w t g).conds,aX c.num,iW frm w 505 506 507,aD w.vars,aD w.facts,aE w.ev]) Z Z (jH 17 [500,501,502,503,504,505,506,507] h1 h2 Tryz.func74 Z fun O hF=>?_))
 refine bJ ?_
 refine ac (jx Z (am ?_))
 refine an (Ent.freeze 5 (e':=[(5,_),(0,_),(1,_)]) Z (.cons Z (.c (.box (cs:=Tm.cells t) Z (ax Z))) (fe [0,1] Z)) (.skip (cb Z (cw Z (cw Z (.cons Z .map (cb Z (cw Z (cw Z (cw Z .nil)))))))))) ?_
 refine am ?_
 refine jl Z (am ?_)
 refine jn (ae (fJ [_,_,_,_,_,_,_,_,_,_,_] [pn [] 0 1,p0,p0,pz [2],pz [2,3],pz [2,3,4],pe (rg 1 5) 0,pn (rg 1 6) 1 1,pn (rg 1 6) 1 1,pe (rg 0 9) 1,pe (rg 0 10) 2] [6,9,10] [_,_,_,_] (ai (kc Z (V Z)) (k4 Z (kc Z (ai (dg O (B0:=14000) Z Z Z Z (Fn (t:=t) (vs:=w.vars) h1 h2 ht hv hle) (.cons (.agg (ax Z)) (.cons (.c (.whole Z (bA _).symm)) .nil)) Z Z Z Z Z) (kc Z (kc Z (ai (b0 O [500,501,502,503,14000] (bin:=[iB c g 1 2 3,aM g.paths,aK g.conds,aX c.num,aE (aG t w.vars).1.xs]) Z Z Z Z (Ij (c:=c) (g:=g) (k:=(aG t w.vars).1.c) (xs:=(aG t w.vars).1.xs) (ok:=(aG t w.vars).2) h1 h2) Z Z Z Z Z (B0:=17000) Z Z Z Z Z Z) (ai (eS Z Z Z) trivial)))))))) ?_))
 refine jw [6] Z (bJ ?_)
 refine dJ ?_
 refine⟨.inl Z,_,Ent.freeze 14000 (e':=[(6,_)]) Z (fe [6] Z) (.cons Z (.box (ck Z (.cons (.row Z (bA _).symm) .nil))) (cb Z (cw Z (cw Z (cw Z (cb Z (cw Z (cw Z (.cons Z .map (.skip .nil)))))))))),_,Z,Z,Z⟩
abbrev Kl(c:Pc)(g:Gs)(frm:Int)(w:Pw):List (Nat×B):=[(0,iB c g 1 8 3),(1,aM g.paths),(3,aX c.num),(4,iW frm w 5 6 7),(5,aD w.vars),(6,aD w.facts),(7,aE w.ev),(8,aK g.conds)]
def dT(w:Pw)(t:Tm)(g:Gs):Gs:=(g.goal w t).flag (!t.ok)
theorem xg{t:Tm}(hg:g.conds.length+1≤L):MQ h1 h2 115 [.c (.pt 0 0 0),.c (.pt 4 0 0),cR t] (iH c g frm w) (aO (.tup []) (Kl c (dT w t g) frm w)):=by
 refine MC.shift 500 Z (MC.keep [500,501,503,504,505,506,507,508] (bs:=[iB c (dT w t g) 501 508 503,aM (dT w t g).paths,aX c.num,iW frm w 505 506 507,aD w.vars,aD w.facts,aE w.ev,aK (dT w t g).conds]) Z Z (jH 31 [500,501,502,503,504,505,506,507] h1 h2 Tryz.func115 Z fun O hF=>?_))
 refine bJ ?_
 refine ac (jx Z (am ?_))
 refine an (Ent.freeze 5 (e':=[(5,_),(0,_),(1,_)]) Z (.cons Z (.c (.box (cs:=Tm.cells t) Z (ax Z))) (fe [0,1] Z)) (.skip (cb Z (cw Z (cw Z (.cons Z .map (cb Z (cw Z (cw Z (cw Z .nil)))))))))) ?_
 refine am ?_
 refine jn (ae (rk [_,_,_,_,_,_,_,_,_,_] [p0,pz [0],pz [0,1],pz [0,1,2],pe [0,1,2,3] 0,pn [] 0 1,pe [0,1,2,3,4,5] 1,pn [0,1,2,3,4,5,6] 2 2,pn [] 0 2,pe [0,1,2,3,4,5,6,7,8] 2] [4,6,9] 8 6 (.box [.d .nils,.d (.int .i64 0),.d .nils]) [_,_,_] [_] [[],[],[]] (kf Z Z Z (kf Z Z Z (kf Z Z Z (kf Z Z Z (ai (ai (au (az (dg O (B0:=12000) Z Z Z Z (BY (ts:=w.facts) h1 h2) (.cons (.c (.whole Z (bA _).symm)) .nil) Z Z Z Z Z)) (az (dg O (B0:=12000) Z Z Z Z (BY (ts:=w.facts) h1 h2) (.cons (.c (.whole Z (bA _).symm)) .nil) Z Z Z Z Z))) Z) (ai (kf Z Z Z (kg Z Z Z)) (ai (ai (au (az (dg O (B0:=14000) Z Z Z Z (rD (t:=t) h1 h2) (ab Z) Z Z Z Z Z)) (az (dg O (B0:=14000) Z Z Z Z (rD (t:=t) h1 h2) (ab Z) Z Z Z Z Z))) Z) (kf Z Z Z (ai (ai (ai (az (Eff.alloc O Z Z Z Z Z Z)) Z) (ai (ai (az (Eff.alloc O Z Z Z Z Z Z)) Z) (ai (az (Eff.alloc O Z Z Z Z Z Z)) Z))) (ai (ai (au trivial (az (eS Z Z Z))) Z) trivial)))))))))) ?_))
 refine jw [6,5,0] Z (bJ ?_)
 refine ae (ac (js Z (lo Z (mF (t:=t) h1 h2) 17000 Z (js Z (jn (zc Z (fun z17=>?_) (fun z17=>?_)))))))
 refine ag (jc Z (jo Z (am ?_)))
 refine jn (kx [_,_,_,_,_,_,_,_,_,_,_] [pn [] 0 2,pn [] 0 1,pn [1] 0 1,pn [1,2] 0 1,pn [1,2,3] 0 1,p0,pe [5] 0,pe (rg 1 6) 1,pn (rg 0 8) 2 2,pn (rg 0 9) 2 2,pe (rg 0 10) 2] [6,7,10] [_,_,_,_] [[12000,14000],[502,27],[]] (ai (ka Z Z (ka Z Z (kw Z Z))) (ai (ka Z Z (kw Z Z)) (ai (ka Z Z (kw Z Z)) (ai (ka Z Z (kw Z Z)) (ai (ka Z Z (kw Z Z)) (ka Z Z (ai (ai (ll [12000,14000] (ds:=Sq.cells (⟨w.facts,t⟩:Sq)) O Z Z Z Z Z Z Z Z Z Z Z Z (fun e=>.rs Z (bA _).symm (.d Z (.rs Z (bA _).symm .nil))) Z Z) Z) (ai (ai (dq (xs:=g.conds.map Sq.cells) (ys:=[Sq.cells (⟨w.facts,t⟩:Sq)]) (zs:=(g.conds++[(⟨w.facts,t⟩:Sq)]).map Sq.cells) (n:=(g.conds++[(⟨w.facts,t⟩:Sq)]).length) O Z Z Z Z Z Z Z Z Z Z Z Z Z Z Z Z (.row Z (bA _).symm) Z Z (by decide) Z (by simp;omega) (by simp;omega) (by simp) (by simp) Z) Z) (ka Z Z (ka Z Z (ai (ai (az (eS Z Z Z)) Z) trivial))))))))))) ?_)
 show _∧_
 have hok:t.ok=false:=by simpa using z17
 rw[show dT w t g=⟨g.paths,g.conds++[(⟨w.facts,t⟩:Sq)],true⟩ by rw[dT,hok];simp[Gs.flag,Gs.goal]]
 refine⟨.inr Z,_,aa 28 508 Z Z,_,Z,Z,Z⟩
 refine af (jw [6,5,0] Z (kx [_,_,_,_,_,_,_,_,_,_,_] [pn [] 0 2,pn [] 0 1,pn [1] 0 1,pn [1,2] 0 1,pn [1,2,3] 0 1,p0,pe [5] 0,pe (rg 1 6) 1,pn (rg 0 8) 2 2,pn (rg 0 9) 2 2,pe (rg 0 10) 2] [6,7,10] [_,_,_,_] [[12000,14000],[502,27],[]] (ai (ka Z Z (ka Z Z (kw Z Z))) (ai (ka Z Z (kw Z Z)) (ai (ka Z Z (kw Z Z)) (ai (ka Z Z (kw Z Z)) (ai (ka Z Z (kw Z Z)) (ka Z Z (ai (ai (ll [12000,14000] (ds:=Sq.cells (⟨w.facts,t⟩:Sq)) O Z Z Z Z Z Z Z Z Z Z Z Z (fun e=>.rs Z (bA _).symm (.d Z (.rs Z (bA _).symm .nil))) Z Z) Z) (ai (ai (dq (xs:=g.conds.map Sq.cells) (ys:=[Sq.cells (⟨w.facts,t⟩:Sq)]) (zs:=(g.conds++[(⟨w.facts,t⟩:Sq)]).map Sq.cells) (n:=(g.conds++[(⟨w.facts,t⟩:Sq)]).length) O Z Z Z Z Z Z Z Z Z Z Z Z Z Z Z Z (.row Z (bA _).symm) Z Z (by decide) Z (by simp;omega) (by simp;omega) (by simp) (by simp) Z) Z) (ka Z Z (ka Z Z (ai (ai (az (eS Z Z Z)) Z) trivial))))))))))) ?_))
 show _∧_
 have hok:t.ok=true:=by simpa using z17
 rw[show dT w t g=⟨g.paths,g.conds++[(⟨w.facts,t⟩:Sq)],g.bad⟩ by rw[dT,hok];simp[Gs.flag,Gs.goal]]
 refine⟨.inr Z,_,aa 28 508 Z Z,_,Z,Z,Z⟩
abbrev Kk(c:Pc)(g:Gs)(frm:Int)(w:Pw):List (Nat×B):=[(0,iB c g 1 2 3),(1,aM g.paths),(2,aK g.conds),(3,aX c.num),(4,iW frm w 5 9 7),(5,aD w.vars),(7,aE w.ev),(9,aD w.facts)]
theorem wv{g:Gs}:g.flag true=⟨g.paths,g.conds,true⟩:=by simp[Gs.flag]
theorem oO{g:Gs}:g.flag false=g:=by simp[Gs.flag]
theorem xf{t:Tm}(hl:w.facts.length≤1000):MQ h1 h2 116 [.c (.pt 0 0 0),.c (.pt 4 0 0),cR t] (iH c g frm w) (aO (.tup []) (Kk c (g.flag (w.fact t).long) frm (w.fact t))):=by
 refine MC.shift 500 Z (MC.keep [500,501,502,503,504,505,507,509] (bs:=[iB c (g.flag (w.fact t).long) 501 502 503,aM (g.flag (w.fact t).long).paths,aK (g.flag (w.fact t).long).conds,aX c.num,iW frm (w.fact t) 505 509 507,aD (w.fact t).vars,aE (w.fact t).ev,aD (w.fact t).facts]) Z Z (jH 25 [500,501,502,503,504,505,506,507] h1 h2 Tryz.func116 Z fun O hF=>?_))
 refine bJ ?_
 refine ac (jx Z (am ?_))
 refine an (Ent.freeze 5 (e':=[(5,_),(0,_),(1,_)]) Z (.cons Z (.c (.box (cs:=Tm.cells t) Z (ax Z))) (fe [0,1] Z)) (.skip (cb Z (cw Z (cw Z (.cons Z .map (cb Z (cw Z (cw Z (cw Z .nil)))))))))) ?_
 refine am ?_
 refine jn (ae (rk [_,_,_,_,_,_,_,_,_,_,_] [pn [] 0 1,p0,pz [1],pz [1,2],pz [1,2,3],p0,pz [5],pe [1,2,3,4,5,6] 0,pn [0,1,2,3,4,5,6,7] 1 1,pn [0,1,2,3,4,5,6,7,8] 1 1,pe [0,1,2,3,4,5,6,7,8,9] 1] [7,10] 6 12 (.row false 2 [Tm.cells t]) [_] [_,_] [[506],[]] (ai (kf Z Z Z (kg Z Z Z)) (kf Z Z Z (kf Z Z Z (kf Z Z Z (kf Z Z Z (kf Z Z Z (ai (ai (az (cD O Z Z Z Z Z Z Z Z Z Z Z Z Z Z)) Z) (ai (ai (au trivial (bW (own:=false) (xs:=w.facts.map Tm.cells) (ys:=[Tm.cells t]) (zs:=((w.facts++[t])).map Tm.cells) (n:=(w.facts++[t]).length) O Z Z Z Z Z Z Z Z Z Z Z Z Z Z Z Z (.row Z (bA _).symm) (.whole Z Z (.inr ⟨Z,Z⟩)) (by simp) Z (by simp;omega) (by simp;omega) (by simp) (by simp) Z)) Z) (ai (ai (au trivial (V Z)) Z) (ai (ai (au trivial (V Z)) Z) (ai (ai (au trivial (az (eS Z Z Z))) Z) trivial))))))))))) ?_))
 refine jw [0,1] Z (bJ ?_)
 refine ac (jd Z (st (dV O Z Z (by simp only[cp,du];omega)) Z (js Z (jn (zc Z (fun z21=>?_) (fun z21=>?_))))))
 refine ag (jc Z (jo Z (am ?_)))
 refine jn ?_
 show _∧_
 have hlo:(w.fact t).long=true:=decide_eq_true (by show 12<(w.facts++[t]).length;have:=bt z21;omega)
 rw[hlo,wv]
 refine⟨.inr Z,_,aa 13 509 Z Z,_,Z,Z,Z⟩
 refine af ?_
 show _∧_
 have hlo:(w.fact t).long=false:=decide_eq_false (by show¬12<(w.facts++[t]).length;have:=b9 z21;omega)
 rw[hlo,oO]
 refine⟨.inr Z,_,aa 13 509 Z Z,_,Z,Z,Z⟩
def bD:dv:=fun t=>(gV [⟨7,[]⟩,t] [1,-1],(gV [⟨7,[]⟩,t] [1,-1]).ok)
theorem yK{w:Pw}{t:Tm}{g:Gs}(ht:t.ok=true):dT w (bD t).1 (dT w t g)=kG bD w t g:=by
 simp only[dT,kG,bD,ht,Gs.goal,Gs.flag,Bool.not_true,Bool.or_false]
theorem Ek{t:Tm}(ht:t.ok=true):CtxOk [⟨7,[]⟩,t]:=by
 refine⟨fun u hu=>?_,by simp⟩
 rcases List.mem_cons.1 hu with rfl|hu
 decide
 rcases List.mem_cons.1 hu with rfl|hu
 exact ht
 cases hu
theorem DH{t:Tm}(ht:t.ok=true)(hg:g.conds.length+2≤L):MQ h1 h2 113 [.c (.pt 0 0 0),.c (.pt 4 0 0),cR t] (iH c g frm w) (aO (.tup []) (Kl c (kG bD w t g) frm w)):=by
 refine MC.shift 500 Z (MC.keep [500,501,503,504,505,506,507,508] (bs:=[iB c (kG bD w t g) 501 508 503,aM (kG bD w t g).paths,aX c.num,iW frm w 505 506 507,aD w.vars,aD w.facts,aE w.ev,aK (kG bD w t g).conds]) Z Z (jH 20 [500,501,502,503,504,505,506,507] h1 h2 Tryz.func113 Z fun O hF=>?_))
 refine bJ ?_
 refine ac (jx Z (am ?_))
 refine an (Ent.freeze 5 (e':=[(5,_),(0,_),(1,_)]) Z (.cons Z (.c (.box (cs:=Tm.cells t) Z (ax Z))) (fe [0,1] Z)) (.skip (cb Z (cw Z (cw Z (.cons Z .map (cb Z (cw Z (cw Z (cw Z .nil)))))))))) ?_
 refine am ?_
 refine aN (jc Z (ao O [500,501,502,503,504,505,506,507] (bin:=[iB c g 1 2 3,aM g.paths,aK g.conds,aX c.num,iW frm w 5 6 7,aD w.vars,aD w.facts,aE w.ev]) Z Z Z Z (xg (c:=c) (g:=g) (frm:=frm) (w:=w) (t:=t) h1 h2 (by omega)) Z Z Z Z Z Z (B0:=11000) Z Z (am ?_)))
 refine aN (jb Z (hp (aZ O Z Z Z Z Z Z Z Z Z Z Z) Z (am ?_)))
 refine an (Ent.rowLe 13 Z (.cons (cr (.cons (.nil (sz:=1)) .nil)) (.cons (cr (.cons .refl .nil)) .nil))) (am ?_)
 refine am ?_
 refine hp (bz O Z Z Z) Z (am ?_)
 refine an (Ent.freeze 13 (e':=[(14,_),(13,_),(0,_),(1,_)]) Z (.cons Z (.keep Z) (.cons Z (.c (.row Z Z)) (fe [0,1] Z))) (.skip (cw Z (cb Z (cw Z (.cons Z .map (cb Z (cw Z (cw Z (cw Z (cw Z .nil))))))))))) ?_
 refine an (Ent.freeze 14 (e':=[(14,_),(13,_),(0,_),(1,_)]) Z (.cons Z (.c (.row Z Z)) (fe [13,0,1] Z)) (.skip (cb Z (cw Z (.cons Z .map (cb Z (cw Z (cw Z (cw Z (cw Z .nil)))))))))) ?_
 refine am ?_
 refine aj O Z Z Z Z (B1 (ts:=[⟨7,[]⟩,t]) (ms:=[1,-1]) h1 h2 (Ek ht) (by decide) (cQ _)) (ab Z) Z Z Z Z (B0:=16000) Z Z (jl Z (am ?_))
 refine jo Z (am ?_)
 refine jn (ag (jc Z (ao O [500,501,11008,503,504,505,506,507] (bin:=[iB c (dT w t g) 1 2 3,aM (dT w t g).paths,aK (dT w t g).conds,aX c.num,iW frm w 5 6 7,aD w.vars,aD w.facts,aE w.ev]) Z Z Z Z (xg (c:=c) (g:=(dT w t g)) (frm:=frm) (w:=w) (t:=(bD t).1) h1 h2 (by simp only[dT,Gs.flag,Gs.goal,cp,du];omega)) Z Z Z Z Z Z (B0:=20000) Z Z (am ?_))))
 refine jn ?_
 show _∧_
 rw[←yK ht]
 refine⟨.inr Z,_,aa 20008 508 Z Z,_,Z,Z,Z⟩
abbrev iHE(c:Pc)(g:Gs)(frm:Int)(w:Pw):List (Nat×B):=[(0,iB c g 9 8 3),(3,aX c.num),(4,iW frm w 5 6 7),(5,aD w.vars),(6,aD w.facts),(7,aE w.ev),(8,aK g.conds),(9,aM g.paths)]
theorem yn{w:Pw}{t:Tm}{g:Gs}:dT w (aG t w.vars).1 (aU w t g)=bn w g t:=by
 simp only[dT,eU,bn,Gs.flag,Bool.not_true,Bool.or_false]
theorem s9{w:Pw}(hw:CtxOk w.vars)(hv:w.vars.length=4):fA w.vars 10=true:=by
 unfold fA
 rw[List.all_eq_true.2 hw.ok,decide_eq_true (by omega)];rfl
theorem zP{to:Int}{fs:List Tm}(hw:CtxOk w.vars)(hv:w.vars.length=4)(hf:TsOk fs)(hg:g.conds.length+fs.length≤L)(hp:g.paths.length+1≤L):MQ h1 h2 112 [.c (.pt 0 0 0),.c (.pt 4 0 0),eI to,bM fs] (iH c g frm w) (aO (.tup []) (iHE c (dy frm w to fs g) frm w)):=by
 refine MC.shift 500 Z (MC.keep [500,503,504,505,506,507,508,509] (bs:=[iB c (dy frm w to fs g) 509 508 503,aX c.num,iW frm w 505 506 507,aD w.vars,aD w.facts,aE w.ev,aK (dy frm w to fs g).conds,aM (dy frm w to fs g).paths]) Z Z (jH 63 [500,501,502,503,504,505,506,507] h1 h2 Tryz.func112 Z fun O hF=>?_))
 refine bJ ?_
 have hpe:(fs.foldl (bn w) g).paths.length=g.paths.length:=congrArg List.length il
 have hva:=s9 hw hv
 have hll:fs.length≤L:=by omega
 refine ae (ac (js Z (cW Z (js Z (jn (ak (ap (X:=Nat) (fun i=>⟨[(0,.c (.pt 500 0 0)),(1,.c (.pt 504 0 0)),(2,eI to),(10,bM fs),(11,eI fs.length),(12,eI i)],[(500,iB c ((fs.take i).foldl (bn w) g) 501 902 503),(501,aM ((fs.take i).foldl (bn w) g).paths),(503,aX c.num),(504,iW frm w 505 506 507),(505,aD w.vars),(506,aD w.facts),(507,aE w.ev),(902,aK ((fs.take i).foldl (bn w) g).conds)]⟩) (fun i=>i≤fs.length) (fun i=>fs.length-i) 0 (((ah [500,501,503,504,505,506,507,502] (e':=[(0,_),(1,_),(2,_),(10,_),(11,_),(12,_)]) Z Z ⟨Z,Z,Z,Z,Z,Z,tv⟩ Z).trans (aa 502 902 Z Z)).trans (Ent.to ⟨Z,Z,Z,Z,Z,Z,tv⟩ Z)) ?_ (fun i hi=>?_))))))))
 exact cG _
 refine ac (js Z (jn (ae (zc Z (fun z13=>?_) (fun z13=>?_)))))
 refine af (ae (ak (ac (jh Z Z (js Z (jl Z (am ?_)))))))
 refine jo Z (am ?_)
 refine jn (ag (jd Z (js Z ?_)))
 have hil:i<fs.length:=by have:=bt z13;omega
 have hfi:=hf.get hil
 have hci:=mw (w:=w) (fs:=fs.take i) (g:=g)
 rw[List.length_take,Nat.min_eq_left (by omega)]at hci
 refine ao O [500,501,902,503,504,505,506,507] (bin:=[iB c ((fs.take i).foldl (bn w) g) 1 2 3,aM ((fs.take i).foldl (bn w) g).paths,aK ((fs.take i).foldl (bn w) g).conds,aX c.num,iW frm w 5 6 7,aD w.vars,aD w.facts,aE w.ev]) Z Z Z Z (oB (c:=c) (g:=((fs.take i).foldl (bn w) g)) (frm:=frm) (w:=w) (t:=(fs.getD i default)) h1 h2 hfi.1 hva (by omega)) Z Z Z Z Z Z (B0:=22000) Z Z (am ?_)
 refine ao O [500,501,902,503,504,505,506,507] (bin:=[iB c (aU w (fs.getD i default) ((fs.take i).foldl (bn w) g)) 1 2 3,aM (aU w (fs.getD i default) ((fs.take i).foldl (bn w) g)).paths,aK (aU w (fs.getD i default) ((fs.take i).foldl (bn w) g)).conds,aX c.num,iW frm w 5 6 7,aD w.vars,aD w.facts,aE w.ev]) Z Z Z Z (xg (c:=c) (g:=(aU w (fs.getD i default) ((fs.take i).foldl (bn w) g))) (frm:=frm) (w:=w) (t:=(aG (fs.getD i default) w.vars).1) h1 h2 (show((fs.take i).foldl (bn w) g).conds.length+1≤L by omega)) Z Z Z Z Z Z (B0:=23000) Z Z (am ?_)
 refine jn (ag (ji Z (js Z (jn ?_))))
 refine⟨i+1,((ah [500,501,503,504,505,506,507,23008] (e':=[(0,_),(1,_),(2,_),(10,_),(11,_),(12,_)]) Z Z ⟨Z,Z,Z,Z,Z,Z,tv⟩ Z).trans (aa 23008 902 Z Z)).trans (Ent.to ⟨Z,Z,Z,Z,Z,Z,tv⟩ (by rw[r5 hil,←yn];rfl)),by omega,by omega⟩
 refine aR (ae ?_)
 obtain rfl:i=fs.length:=by have:=b9 z13;omega
 rw[List.take_length]
 refine kx [_,_,_,_,_,_,_,_,_,_,_,_,_,_,_,_,_,_,_,_,_,_,_,_,_,_,_,_,_,_,_] [pn [] 0 5,pn [] 0 4,pn [1] 0 4,pn [1,2] 0 4,pn [1,2,3] 0 4,pn [] 0 3,pn [5] 0 3,pn [5,6] 0 3,pn [5,6,7] 0 3,pn [] 0 3,p0,pz [10],pz [10,11],pz [10,11,12],pe (rg 10 4) 0,pn [] 0 1,pn [15] 0 1,pn [15,16] 0 1,pn [15,16,17] 0 1,pe (rg 10 9) 1,pn [] 0 2,pn [20] 0 2,pn [20,21] 0 2,pn [20,21,22] 0 2,pe (rg 10 14) 2,pn (rg 5 20) 3 3,pe (rg 5 21) 3,pe (rg 1 26) 4,pn (rg 0 28) 5 5,pn (rg 0 29) 5 5,pe (rg 0 30) 5] [14,19,24,26,27,30] [_,_,_,_,_,_,_] [[],[],[],[39000,44000,49000],[501,50],[]] (ai (ka Z Z (ka Z Z (ka Z Z (ka Z Z (ka Z Z (kw Z Z)))))) (ai (ka Z Z (ka Z Z (ka Z Z (ka Z Z (kw Z Z))))) (ai (ka Z Z (ka Z Z (ka Z Z (ka Z Z (kw Z Z))))) (ai (ka Z Z (ka Z Z (ka Z Z (ka Z Z (kw Z Z))))) (ai (ka Z Z (ka Z Z (ka Z Z (ka Z Z (kw Z Z))))) (ai (ka Z Z (ka Z Z (ka Z Z (kw Z Z)))) (ai (ka Z Z (ka Z Z (ka Z Z (kw Z Z)))) (ai (ka Z Z (ka Z Z (ka Z Z (kw Z Z)))) (ai (ka Z Z (ka Z Z (ka Z Z (kw Z Z)))) (ai (ka Z Z (ka Z Z (ka Z Z (kw Z Z)))) (ka Z Z (ka Z Z (ka Z Z (ka Z Z (ai (ai (az (dg O (B0:=39000) Z Z Z Z (BY (ts:=w.facts) h1 h2) (.cons (.c (.whole Z (bA _).symm)) .nil) Z Z Z Z Z)) Z) (ai (ka Z Z (kw Z Z)) (ai (ka Z Z (kw Z Z)) (ai (ka Z Z (kw Z Z)) (ai (ka Z Z (kw Z Z)) (ai (ai (az (dg O (B0:=44000) Z Z Z Z (BY (ts:=w.vars) h1 h2) (.cons (.c (.whole Z (bA _).symm)) .nil) Z Z Z Z Z)) Z) (ai (ka Z Z (ka Z Z (kw Z Z))) (ai (ka Z Z (ka Z Z (kw Z Z))) (ai (ka Z Z (ka Z Z (kw Z Z))) (ai (ka Z Z (ka Z Z (kw Z Z))) (ai (ai (az (dg O (B0:=49000) Z Z Z Z (vz (xs:=w.ev) h1 h2) (.cons (.c (.whole Z (bA _).symm)) .nil) Z Z Z Z Z)) Z) (ka Z Z (ai (ai (ll [39000,44000,49000] (ds:=Pth.cells (⟨frm,to,w.facts,w.vars,w.ev⟩:Pth)) O Z Z Z Z Z Z Z Z Z Z Z Z (fun e=>.d Z (.d Z (.rs Z (bA _).symm (.rs Z (bA _).symm (.rs Z (bA _).symm .nil))))) Z Z) Z) (ai (ai (dq (xs:=(fs.foldl (bn w) g).paths.map Pth.cells) (ys:=[Pth.cells (⟨frm,to,w.facts,w.vars,w.ev⟩:Pth)]) (zs:=((fs.foldl (bn w) g).paths++[(⟨frm,to,w.facts,w.vars,w.ev⟩:Pth)]).map Pth.cells) (n:=((fs.foldl (bn w) g).paths++[(⟨frm,to,w.facts,w.vars,w.ev⟩:Pth)]).length) O Z Z Z Z Z Z Z Z Z Z Z Z Z Z Z Z (.row Z (bA _).symm) Z Z (by decide) Z (by simp;omega) (by simp;omega) (by simp) (by simp) Z) Z) (ka Z Z (ka Z Z (ai (ai (az (eS Z Z Z)) Z) trivial))))))))))))))))))))))))))))))) ?_
 refine jw [13,0,1,2,10,11,12] Z (bJ ?_)
 refine ac (jd Z (st (dV O Z Z (by simp only[cp,du];omega)) Z (js Z (jn (zc Z (fun z59=>?_) (fun z59=>?_))))))
 refine ag (jc Z (jo Z (am ?_)))
 refine jn ?_
 show _∧_
 have hlo:decide (200<(fs.foldl (bn w) g).paths.length+1)=true:=decide_eq_true (by show 200<(fs.foldl (bn w) g).paths.length+1;have:=bt z59;rw[cp,du]at this;omega)
 rw[show(dy frm w to fs g)=⟨(fs.foldl (bn w) g).paths++[(⟨frm,to,w.facts,w.vars,w.ev⟩:Pth)],(fs.foldl (bn w) g).conds,true⟩ by unfold dy ju;rw[hlo];simp]
 refine⟨.inr Z,_,(aa 51 509 Z Z).trans (aa 902 508 Z Z),_,Z,Z,Z⟩
 refine af ?_
 show _∧_
 have hlo:decide (200<(fs.foldl (bn w) g).paths.length+1)=false:=decide_eq_false (by show¬200<(fs.foldl (bn w) g).paths.length+1;have:=b9 z59;rw[cp,du]at this;omega)
 rw[show(dy frm w to fs g)=⟨(fs.foldl (bn w) g).paths++[(⟨frm,to,w.facts,w.vars,w.ev⟩:Pth)],(fs.foldl (bn w) g).conds,(fs.foldl (bn w) g).bad⟩ by unfold dy ju;rw[hlo];simp]
 refine⟨.inr Z,_,(aa 51 509 Z Z).trans (aa 902 508 Z Z),_,Z,Z,Z⟩
theorem Fq(hs:w.sym=10):MQ h1 h2 114 [.c (.pt 0 0 0),.c (.pt 4 0 0)] (iH c g frm w) (aO (.agg [.d (.int .i64 0),.d .nils]) (iH c (⟨g.paths,g.conds,true⟩:Gs) frm w)):=by
 refine MC.shift 500 Z (MC.keep [500,501,502,503,504,505,506,507] (bs:=[iB c (⟨g.paths,g.conds,true⟩:Gs) 501 502 503,aM (⟨g.paths,g.conds,true⟩:Gs).paths,aK (⟨g.paths,g.conds,true⟩:Gs).conds,aX c.num,iW frm w 505 506 507,aD w.vars,aD w.facts,aE w.ev]) Z Z (jH 27 [500,501,502,503,504,505,506,507] h1 h2 Tryz.func114 Z fun O hF=>?_))
 refine bJ ?_
 refine ac (jl Z (am ?_))
 refine jn (ae (ac (jd Z (js Z (jn (zc Z (fun z9=>?_) (fun z9=>?_)))))))
 refine ac (jc Z (jo Z (am ?_)))
 refine aN (js Z (jo Z (am ?_)))
 refine jr ?_
 refine⟨.inl Z,_,bK,_,Z,Z,Z⟩
 exact absurd (b9 z9) (by omega)
theorem Im(hs:w.sym<10):MQ h1 h2 114 [.c (.pt 0 0 0),.c (.pt 4 0 0)] (iH c g frm w) (aO (cR (iC w.sym)) (iH c g frm (⟨w.vars,w.facts,w.ev,w.sym+1⟩:Pw))):=by
 refine MC.shift 500 Z (MC.keep [500,501,502,503,504,505,506,507] (bs:=[iB c g 501 502 503,aM g.paths,aK g.conds,aX c.num,iW frm (⟨w.vars,w.facts,w.ev,w.sym+1⟩:Pw) 505 506 507,aD (⟨w.vars,w.facts,w.ev,w.sym+1⟩:Pw).vars,aD (⟨w.vars,w.facts,w.ev,w.sym+1⟩:Pw).facts,aE (⟨w.vars,w.facts,w.ev,w.sym+1⟩:Pw).ev]) Z Z (jH 27 [500,501,502,503,504,505,506,507] h1 h2 Tryz.func114 Z fun O hF=>?_))
 refine bJ ?_
 refine ac (jl Z (am ?_))
 refine jn (ae (ac (jd Z (js Z (jn (zc Z (fun z9=>?_) (fun z9=>?_)))))))
 exact absurd (bt z9) (by omega)
 refine af (ac (jd Z (st ((vF Z).cast (v':=eI ((w.sym+1:Nat):Int)) (congrArg eI (by omega))) Z (jb Z (jo Z (am ?_))))))
 refine aN (jd Z (st ((vF Z).cast (v':=eI ((w.sym:Nat):Int)) (congrArg eI (by omega))) Z (aj O Z Z Z Z (DI (k:=w.sym) h1 h2 hs) (ab Z) Z Z Z Z (B0:=27000) Z Z (jo Z (am ?_)))))
 refine jr ?_
 refine⟨.inl Z,_,bK,_,Z,Z,Z⟩
theorem H4{c:Tm}{r:List Tm}(hl:(c::r).length≤1000):MQ h1 h2 110 [.c (.rs 0 0 (c::r).length)] [(0,aD (c::r))] (aO (.c (.rs 1 0 (c::r).length)) [(0,aD (c::r)),(1,aD (c::r))]):=by
 refine MC.shift 500 Z (MC.keep [500,501] (bs:=[aD (c::r),aD (c::r)]) Z Z (jH 8 [500] h1 h2 Tryz.func110 Z fun O hF=>?_))
 refine bJ ?_
 refine ac (js Z (jn (ae (ac (jb Z (jn (zc Z (fun z4=>?_) (fun z4=>?_))))))))
 exact nf z4
 refine af (ac (hp (bz O Z Z Z) Z (am ?_)))
 refine js Z ?_
 have hl2:=hl
 simp only[dW]at hl2
 refine an (c9 5 Z) (hp (ko (own:=false) (zs:=(c::r).map Tm.cells) (n:=(c::r).length) O Z (.row Z Z) (.whole Z (by simp) (.inr ⟨Z,Z⟩)) (by simp) Z (by simp;omega) (by simp;omega) Z (by simp)) Z (am ?_))
 refine js Z (jr ?_)
 refine⟨.inl Z,_,aa 7 501 Z Z,_,Z,Z,Z⟩
theorem H2:MQ h1 h2 110 [.c (.rs 0 0 0)] [(0,aD [])] (aO (.c (.rs 1 0 0)) [(0,aD []),(1,aD [])]):=by
 refine MC.shift 500 Z (MC.keep [500,501] (bs:=[aD [],aD []]) Z Z (jH 8 [500] h1 h2 Tryz.func110 Z fun O hF=>?_))
 refine bJ ?_
 refine ac (js Z (jn (ae (ac (js Z (oX O Z Z Z Z Z Z Z Z Z Z (fun b=>?_)))))))
 refine jn (zc Z (fun _=>?_) (fun _=>?_))
 refine ac (js Z (jr ?_))
 refine⟨.inl Z,_,cx 2 501 2 false Z Z,_,Z,Z,Z⟩
 refine af (ac (hp (bz O Z Z Z) Z (am ?_)))
 refine js Z (an (c9 5 Z) (hp (ko (own:=false) (zs:=[]) (n:=0) O Z (.row Z Z) (.whole Z (by simp) (.inr ⟨Z,Z⟩)) (by simp) Z (by simp) (by simp) Z (by simp)) Z (am ?_)))
 refine js Z (jr ?_)
 refine⟨.inl Z,_,aa 7 501 Z Z,_,Z,Z,Z⟩
theorem Dz{L:Nat}(h1:4096≤L)(h2:L≤1073741824){ts:List Tm}(hl:ts.length≤1000):MC Tryz.prog L 110 [.c (.rs 0 0 ts.length)] [(0,aD ts)] (aO (.c (.rs 1 0 ts.length)) [(0,aD ts),(1,aD ts)]):=by
 cases ts with
 | nil=>exact H2 h1 h2
 | cons c r=>exact H4 h1 h2 hl
theorem Fk{c:Int}{r:List Int}(hl:(c::r).length≤1000):MQ h1 h2 159 [.c (.rs 0 0 (c::r).length)] [(0,aE (c::r))] (aO (.c (.rs 1 0 (c::r).length)) [(0,aE (c::r)),(1,aE (c::r))]):=by
 refine MC.shift 500 Z (MC.keep [500,501] (bs:=[aE (c::r),aE (c::r)]) Z Z (jH 8 [500] h1 h2 Tryz.func159 Z fun O hF=>?_))
 refine bJ ?_
 refine ac (js Z (jn (ae (ac (jb Z (jn (zc Z (fun z4=>?_) (fun z4=>?_))))))))
 exact nf z4
 refine af (ac (hp (bz O Z Z Z) Z (am ?_)))
 refine js Z ?_
 have hl2:=hl
 simp only[dW]at hl2
 refine hp (ko (own:=true) (zs:=(c::r).map (fun n=>[D.int .i64 n])) (n:=(c::r).length) O Z (.row Z Z) (.whole Z (by simp) (.inl (Scal.map (fun a=>rfl)))) (by simp) Z (by simp;omega) (by simp;omega) Z (by simp)) Z (am ?_)
 refine js Z (jr ?_)
 refine⟨.inl Z,_,aa 7 501 Z Z,_,Z,Z,Z⟩
theorem Fj:MQ h1 h2 159 [.c (.rs 0 0 0)] [(0,aE [])] (aO (.c (.rs 1 0 0)) [(0,aE []),(1,aE [])]):=by
 refine MC.shift 500 Z (MC.keep [500,501] (bs:=[aE [],aE []]) Z Z (jH 8 [500] h1 h2 Tryz.func159 Z fun O hF=>?_))
 refine bJ ?_
 refine ac (js Z (jn (ae (ac (js Z (oX O Z Z Z Z Z Z Z Z Z Z (fun b=>?_)))))))
 refine jn (zc Z (fun _=>?_) (fun _=>?_))
 refine ac (js Z (jr ?_))
 refine⟨.inl Z,_,cx 2 501 1 true Z Z,_,Z,Z,Z⟩
 refine af (ac (hp (bz O Z Z Z) Z (am ?_)))
 refine js Z (hp (ko (own:=true) (zs:=[]) (n:=0) O Z (.row Z Z) (.whole Z (by simp) (.inl (Scal.map (fun a=>rfl)))) (by simp) Z (by simp) (by simp) Z (by simp)) Z (am ?_))
 refine js Z (jr ?_)
 refine⟨.inl Z,_,aa 7 501 Z Z,_,Z,Z,Z⟩
theorem Fi{L:Nat}(h1:4096≤L)(h2:L≤1073741824){ts:List Int}(hl:ts.length≤1000):MC Tryz.prog L 159 [.c (.rs 0 0 ts.length)] [(0,aE ts)] (aO (.c (.rs 1 0 ts.length)) [(0,aE ts),(1,aE ts)]):=by
 cases ts with
 | nil=>exact Fj h1 h2
 | cons c r=>exact Fk h1 h2 hl
theorem H0:MQ h1 h2 110 [.c (.d .nils)] [] (Plain (.c (.d .nils))):=by
 refine jB 8 h1 h2 Tryz.func110 Z fun O hF=>?_
 refine ac (js Z (jn (ae (ac (jb Z (jn (zc Z (fun z4=>?_) (fun z4=>?_))))))))
 refine ac (js Z (jr ?_))
 refine eR Z ?_
 exact⟨Z,Z⟩
 exact nt z4
abbrev wA(frm:Int)(w:Pw)(i j k:Nat):A:=.agg [.d (.int .i64 frm),.rs i 0 w.vars.length,.d .nils,.rs j 0 w.facts.length,.rs k 0 w.ev.length,.d (.int .i64 (w.sym:Int))]
theorem xe(hv:w.vars.length≤1000)(hl:w.facts.length≤1000)(he:w.ev.length≤1000):MQ h1 h2 121 [wA frm w 0 1 2] [(0,aD w.vars),(1,aD w.facts),(2,aE w.ev)] (aO (wA frm w 3 4 5) [(0,aD w.vars),(1,aD w.facts),(2,aE w.ev),(3,aD w.vars),(4,aD w.facts),(5,aE w.ev)]):=by
 refine MC.shift 500 Z (MC.keep [500,501,502,503,504,505] (bs:=[aD w.vars,aD w.facts,aE w.ev,aD w.vars,aD w.facts,aE w.ev]) Z Z (jH 20 [500,501,502] h1 h2 Tryz.func121 Z fun O hF=>?_))
 refine bJ ?_
 refine ac (jx Z (am ?_))
 refine jl Z (am ?_)
 refine jn (ae (fJ [_,_,_,_,_,_,_,_,_,_,_,_,_,_,_,_,_,_,_,_] [p0,pz [0],pe [0,1] 0,pn [] 0 1,pn [3] 0 1,pe (rg 0 5) 1,pn [] 0 2,pn [6] 0 2,pe (rg 0 8) 2,pn [] 0 3,pn [9] 0 3,pe (rg 0 11) 3,pn [0,1,2,3,4,6,7,9,10] 1 4,pe (rg 0 13) 4,pn (rg 0 14) 5 5,pe (rg 0 15) 5,pn (rg 0 16) 6 6,pe (rg 0 17) 6,pn (rg 0 18) 7 7,pe (rg 0 19) 7] [2,5,8,11,13,15,17,19] [_,_,_,_,_,_,_,_,_] (kc Z (kc Z (ai (b0 O [500] (bin:=[aD w.vars]) Z Z Z Z (Dz h1 h2 hv) Z Z Z Z Z (B0:=6000) Z Z Z Z Z Z) (ai (kc Z (V Z)) (ai (kc Z (V Z)) (ai (bg O (B0:=9000) Z Z Z Z (H0 h1 h2) (ab Z) Z Z Z Z Z) (ai (kc Z (kc Z (V Z))) (ai (kc Z (kc Z (V Z))) (ai (b0 O [501] (bin:=[aD w.facts]) Z Z Z Z (Dz h1 h2 hl) Z Z Z Z Z (B0:=12000) Z Z Z Z Z Z) (ai (kc Z (kc Z (kc Z (V Z)))) (ai (kc Z (kc Z (kc Z (V Z)))) (ai (b0 O [502] (bin:=[aE w.ev]) Z Z Z Z (Fi h1 h2 he) Z Z Z Z Z (B0:=15000) Z Z Z Z Z Z) (ai (kc Z (kc Z (kc Z (V Z)))) (ai (eS Z Z Z) (kc Z (ai (eS Z Z Z) (kc Z (ai (eS Z Z Z) (kc Z (ai (eS Z Z Z) trivial)))))))))))))))))))) ?_))
 refine jw [2,1] Z (bJ ?_)
 refine ac (js Z (jo Z (am ?_)))
 refine jr ?_
 refine⟨.inl Z,_,((aa 6001 503 Z Z).trans (aa 12001 504 Z Z)).trans (aa 15001 505 Z Z),_,Z,Z,Z⟩
theorem Ay{t:Tm}{ok:Bool}:MQ h1 h2 119 [.c (.pt 0 0 0),cR t,eB ok] [(0,iB c g 1 2 3),(1,aM g.paths),(2,aK g.conds),(3,aX c.num)] (aO (cR t) [(0,iB c (g.flag (!ok)) 1 2 3),(1,aM (g.flag (!ok)).paths),(2,aK (g.flag (!ok)).conds),(3,aX c.num)]):=by
 refine MC.shift 500 Z (MC.keep [500,501,502,503] (bs:=[iB c (g.flag (!ok)) 501 502 503,aM (g.flag (!ok)).paths,aK (g.flag (!ok)).conds,aX c.num]) Z Z (jH 13 [500,501,502,503] h1 h2 Tryz.func119 Z fun O hF=>?_))
 refine bJ ?_
 refine ac (jx Z (am ?_))
 refine jl Z (am ?_)
 refine jn (ae (ac (jb Z (jn (zc Z (fun z8=>?_) (fun z8=>?_))))))
 refine ag (jc Z (jo Z (am ?_)))
 refine aN (js Z (jo Z (am ?_)))
 refine jr ?_
 have hok:ok=false:=by simpa using z8
 subst hok
 rw[show g.flag (!false)=⟨g.paths,g.conds,true⟩from lQ]
 refine⟨.inl Z,_,bK,_,Z,Z,Z⟩
 refine af (ac (js Z (jo Z (am ?_))))
 refine jr ?_
 have hok:ok=true:=by simpa using z8
 subst hok
 rw[show g.flag (!true)=g from io]
 refine⟨.inl Z,_,bK,_,Z,Z,Z⟩
abbrev xB(d:D):B:=.box [.d d]
abbrev pB(l:Nat):B:=.box [.pt l 0 0]
abbrev iT(c:Pc)(g:Gs)(w:Pw)(d8 d9:D):List (Nat×B):=[(0,iB c g 1 2 3),(1,aM g.paths),(2,aK g.conds),(3,aX c.num),(4,aD w.vars),(5,aD w.facts),(6,aE w.ev),(7,pB 0),(8,xB d8),(9,xB d9)]
abbrev oT(c:Pc)(g:Gs)(d8 d9:D):List (Nat×B):=[(0,iB c g 10 11 3),(3,aX c.num),(7,pB 0),(8,xB d8),(9,xB d9),(10,aM g.paths),(11,aK g.conds)]
abbrev cF(w:Pw)(t:Tm)(g:Gs):Gs:=(g.flag (!(aL t).2)).flag (w.fact t).long
theorem ne{g:Gs}(h:g.bad=true){b:Bool}:g.flag b=g:=by cases g;simp only at h;simp[Gs.flag,h]
def o9(Y:Pw→Gs→Gs):Prop:= ∀u g,g.bad=true→Y u g=g
theorem zX{Y:Pw→Gs→Gs}(hY:o9 Y){w:Pw}{t u:Tm}{g:Gs}(hb:(Y (w.fact t) (cF w t g)).bad=false):(Y (w.fact t) (cF w t g)).flag (w.fact u).long=Y (w.fact t) (cF w t g):=by
 have h2:(cF w t g).bad=false:=by
  cases h:(cF w t g).bad with
  | false=>rfl
  | true=>rw[hY _ _ h,h]at hb;cases hb
 have h3:(w.fact t).long=false:=by simp[cF,Gs.flag]at h2;exact h2.2
 rw[th (t:=u) (u:=t),h3,oO]
theorem Dg{Y N:Pw→Gs→Gs}(hY:o9 Y)(hN:o9 N){w:Pw}{t:Tm}{g:Gs}(h:(g.flag (!(aL t).2)).bad=true):dC Y N w t g=g.flag (!(aL t).2):=by
 rw[dC,ne h,hY _ _ h,hN _ _ h]
theorem Df{Y N:Pw→Gs→Gs}(hY:o9 Y)(hN:o9 N){w:Pw}{t:Tm}{g:Gs}(h:(cF w t g).bad=true):dC Y N w t g=cF w t g:=by
 rw[dC,hY _ _ h,hN _ _ h]
theorem De{Y N:Pw→Gs→Gs}(hN:o9 N){w:Pw}{t:Tm}{g:Gs}(h:(Y (w.fact t) (cF w t g)).bad=true):dC Y N w t g=Y (w.fact t) (cF w t g):=by
 rw[dC,hN _ _ h]
theorem Az{L:Nat}(h1:4096≤L)(h2:L≤1073741824){c:Pc}{g:Gs}{frm:Int}{w:Pw}{t:Tm}(hl:w.facts.length≤1000)(he:g.flag (w.fact t).long=g):MC Tryz.prog L 116 [.c (.pt 0 0 0),.c (.pt 4 0 0),cR t] (iH c g frm w) (aO (.tup []) (Kk c g frm (w.fact t))):=by
 have h:=xf h1 h2 (c:=c) (g:=g) (frm:=frm) (w:=w) (t:=t) hl
 rw[he]at h
 exact h
variable{d8:D}
theorem Fu{t:Tm}{d9:D}{fy fn:Nat}{Y N:Pw→Gs→Gs}(hY:o9 Y)(hN:o9 N)(ht:t.ok=true)(hv:w.vars.length≤1000)(hl:w.facts.length≤1000)(he:w.ev.length≤1000)
  (hy:(cF w t g).bad=false→MQ h1 h2 fy [wA frm (w.fact t) 4 5 6,.c (.pt 7 0 0),.c (.pt 8 0 0),.c (.pt 9 0 0)] (iT c (cF w t g) (w.fact t) d8 d9) (aO (.tup []) (oT c (Y (w.fact t) (cF w t g)) d8 d9))) (hn:(Y (w.fact t) (cF w t g)).bad=false→MQ h1 h2 fn [wA frm (w.fact (aL t).1) 4 5 6,.c (.pt 7 0 0),.c (.pt 8 0 0),.c (.pt 9 0 0)] (iT c (Y (w.fact t) (cF w t g)) (w.fact (aL t).1) d8 d9) (aO (.tup []) (oT c (N (w.fact (aL t).1) (Y (w.fact t) (cF w t g))) d8 d9))) :
  MQ h1 h2 73 [.c (.pt 0 0 0),wA frm w 4 5 6,cR t,.c (.fn fy [.pt 7 0 0,.pt 8 0 0,.pt 9 0 0]),.c (.fn fn [.pt 7 0 0,.pt 8 0 0,.pt 9 0 0])] (iT c g w d8 d9) (aO (.tup []) (oT c (dC Y N w t g) d8 d9)):=by
 refine MC.shift 500 Z (MC.keep [500,503,507,508,509,510,511] (bs:=[iB c (dC Y N w t g) 510 511 503,aX c.num,pB 500,xB d8,xB d9,aM (dC Y N w t g).paths,aK (dC Y N w t g).conds]) Z Z (jH 53 [500,501,502,503,504,505,506,507,508,509] h1 h2 Tryz.func73 Z fun O hF=>?_))
 refine bJ ?_
 refine ac (jx Z (am ?_))
 refine jx Z (am ?_)
 refine an (Ent.freeze 7 (e':=[(7,_),(6,_),(0,_),(3,_),(4,_)]) Z (.cons Z (.c (.box (cs:=Tm.cells t) Z (ax Z))) (fe [6,0,3,4] Z)) (cb Z (.skip (cb Z (cw Z (cw Z (.cons Z .map (cw Z (cw Z (cw Z (cb Z (cb Z (cb Z .nil))))))))))))) ?_
 refine am ?_
 refine aN (jb Z (aj O Z Z Z Z (DG (t:=t) h1 h2 ht) (ab Z) Z Z Z Z (B0:=16000) Z Z (jb Z (ao O [500,501,502,503] (bin:=[iB c g 1 2 3,aM g.paths,aK g.conds,aX c.num]) Z Z Z Z (Ay (c:=c) (g:=g) (t:=(aL t).1) (ok:=(aL t).2) h1 h2) Z Z Z Z Z Z (B0:=19000) Z Z (am ?_)))))
 refine jl Z (am ?_)
 refine jo Z (am ?_)
 refine an (Ent.freeze 10 (e':=[(10,_),(6,_),(7,_),(0,_),(3,_),(4,_)]) Z (.cons Z (.c (.box (cs:=Tm.cells (aL t).1) Z (ax Z))) (fe [6,7,0,3,4] Z)) (cb Z (.skip (cw Z (cw Z (cw Z (cb Z (cb Z (cb Z (cb Z (cw Z (cw Z (.cons Z .map .nil))))))))))))) ?_
 refine am ?_
 refine jn (ae (ac (jd Z (jn (zc Z (fun z22=>?_) (fun z22=>?_))))))
 refine dJ ?_
 rw[Dg hY hN z22]
 refine⟨.inl Z,_,(aa 501 510 Z Z).trans (aa 502 511 Z Z),_,Z,Z,Z⟩
 refine af (ac (js Z (ao O [504,505,506] (bin:=[aD w.vars,aD w.facts,aE w.ev]) Z Z Z Z (xe (frm:=frm) (w:=w) h1 h2 hv hl he) Z Z Z Z Z Z (B0:=25000) Z Z (am ?_))))
 refine jl Z (am ?_)
 refine jo Z (am ?_)
 refine aN (jb Z (ao O [500,501,502,503,11,25003,25004,25005] (bin:=[iB c (g.flag (!(aL t).2)) 1 2 3,aM (g.flag (!(aL t).2)).paths,aK (g.flag (!(aL t).2)).conds,aX c.num,iW frm w 5 6 7,aD w.vars,aD w.facts,aE w.ev]) Z Z Z Z (xf (c:=c) (g:=(g.flag (!(aL t).2))) (frm:=frm) (w:=w) (t:=t) h1 h2 hl) Z Z Z Z Z Z (B0:=28000) Z Z (am ?_)))
 refine jn (ae (ac (jd Z (js Z (jn (zc Z (fun z32=>?_) (fun z32=>?_)))))))
 refine ag (jb Z (ao O [500,501,502,503,25003,28009,25005,507,508,509] (bin:=[iB c (cF w t g) 1 2 3,aM (cF w t g).paths,aK (cF w t g).conds,aX c.num,aD (w.fact t).vars,aD (w.fact t).facts,aE (w.fact t).ev,pB 0,xB d8,xB d9]) Z Z Z Z (hy (by simpa using z32)) Z Z Z Z Z Z (B0:=36000) Z Z (am ?_)))
 refine jn (ae (ac (jd Z (jn (zc Z (fun z39=>?_) (fun z39=>?_))))))
 refine dJ ?_
 rw[De hN z39]
 refine⟨.inl Z,_,(aa 36010 510 Z Z).trans (aa 36011 511 Z Z),_,Z,Z,Z⟩
 refine af (ac (js Z (ao O [504,505,506] (bin:=[aD w.vars,aD w.facts,aE w.ev]) Z Z Z Z (xe (frm:=frm) (w:=w) h1 h2 hv hl he) Z Z Z Z Z Z (B0:=42000) Z Z (am ?_))))
 refine jl Z (am ?_)
 refine jo Z (am ?_)
 refine aN (jb Z (ao O [500,36010,36011,503,12,42003,42004,42005] (bin:=[iB c (Y (w.fact t) (cF w t g)) 1 2 3,aM (Y (w.fact t) (cF w t g)).paths,aK (Y (w.fact t) (cF w t g)).conds,aX c.num,iW frm w 5 6 7,aD w.vars,aD w.facts,aE w.ev]) Z Z Z Z (Az (c:=c) (g:=(Y (w.fact t) (cF w t g))) (frm:=frm) (w:=w) (t:=(aL t).1) h1 h2 hl (zX hY z39)) Z Z Z Z Z Z (B0:=45000) Z Z (am ?_)))
 refine aN (jd Z (js Z (jn (zc Z (fun z49=>?_) (fun z49=>?_)))))
 refine ag (jb Z (ao O [500,36010,36011,503,42003,45009,42005,507,508,509] (bin:=[iB c (Y (w.fact t) (cF w t g)) 1 2 3,aM (Y (w.fact t) (cF w t g)).paths,aK (Y (w.fact t) (cF w t g)).conds,aX c.num,aD (w.fact (aL t).1).vars,aD (w.fact (aL t).1).facts,aE (w.fact (aL t).1).ev,pB 0,xB d8,xB d9]) Z Z Z Z (hn z39) Z Z Z Z Z Z (B0:=53000) Z Z (am ?_)))
 refine jn ?_
 show _∧_
 refine⟨.inr Z,_,(aa 53010 510 Z Z).trans (aa 53011 511 Z Z),_,Z,Z,Z⟩
 exact absurd (show(!(Y (w.fact t) (cF w t g)).bad)=false from z49) (by rw[show(Y (w.fact t) (cF w t g)).bad=false from z39];decide)
 refine af (ae (ac (jd Z (jn (zc Z (fun z39=>?_) (fun z39=>?_))))))
 refine dJ ?_
 rw[Df hY hN z39]
 refine⟨.inl Z,_,(aa 501 510 Z Z).trans (aa 502 511 Z Z),_,Z,Z,Z⟩
 exact absurd (show(!(cF w t g).bad)=false from z32) (by rw[show(cF w t g).bad=false from z39];decide)
theorem Ft{t:Tm}{d9:D}{fy fn:Nat}{Y N:Pw→Gs→Gs}(hY:o9 Y)(hN:o9 N)(ht:t.ok=true)(hv:w.vars.length≤1000)(hl:w.facts.length≤1000)(he:w.ev.length≤1000)
  (hy:(cF w t g).bad=false→MQ h1 h2 fy [wA frm (w.fact t) 4 5 6,.c (.pt 7 0 0),.c (.pt 8 0 0),.c (.pt 9 0 0)] (iT c (cF w t g) (w.fact t) d8 d9) (aO (.tup []) (oT c (Y (w.fact t) (cF w t g)) d8 d9))) (hn:(Y (w.fact t) (cF w t g)).bad=false→MQ h1 h2 fn [wA frm (w.fact (aL t).1) 4 5 6,.c (.pt 7 0 0),.c (.pt 9 0 0)] (iT c (Y (w.fact t) (cF w t g)) (w.fact (aL t).1) d8 d9) (aO (.tup []) (oT c (N (w.fact (aL t).1) (Y (w.fact t) (cF w t g))) d8 d9))) :
  MQ h1 h2 73 [.c (.pt 0 0 0),wA frm w 4 5 6,cR t,.c (.fn fy [.pt 7 0 0,.pt 8 0 0,.pt 9 0 0]),.c (.fn fn [.pt 7 0 0,.pt 9 0 0])] (iT c g w d8 d9) (aO (.tup []) (oT c (dC Y N w t g) d8 d9)):=by
 refine MC.shift 500 Z (MC.keep [500,503,507,508,509,510,511] (bs:=[iB c (dC Y N w t g) 510 511 503,aX c.num,pB 500,xB d8,xB d9,aM (dC Y N w t g).paths,aK (dC Y N w t g).conds]) Z Z (jH 53 [500,501,502,503,504,505,506,507,508,509] h1 h2 Tryz.func73 Z fun O hF=>?_))
 refine bJ ?_
 refine ac (jx Z (am ?_))
 refine jx Z (am ?_)
 refine an (Ent.freeze 7 (e':=[(7,_),(6,_),(0,_),(3,_),(4,_)]) Z (.cons Z (.c (.box (cs:=Tm.cells t) Z (ax Z))) (fe [6,0,3,4] Z)) (cb Z (.skip (cb Z (cw Z (cw Z (.cons Z .map (cw Z (cw Z (cw Z (cb Z (cb Z (cb Z .nil))))))))))))) ?_
 refine am ?_
 refine aN (jb Z (aj O Z Z Z Z (DG (t:=t) h1 h2 ht) (ab Z) Z Z Z Z (B0:=16000) Z Z (jb Z (ao O [500,501,502,503] (bin:=[iB c g 1 2 3,aM g.paths,aK g.conds,aX c.num]) Z Z Z Z (Ay (c:=c) (g:=g) (t:=(aL t).1) (ok:=(aL t).2) h1 h2) Z Z Z Z Z Z (B0:=19000) Z Z (am ?_)))))
 refine jl Z (am ?_)
 refine jo Z (am ?_)
 refine an (Ent.freeze 10 (e':=[(10,_),(6,_),(7,_),(0,_),(3,_),(4,_)]) Z (.cons Z (.c (.box (cs:=Tm.cells (aL t).1) Z (ax Z))) (fe [6,7,0,3,4] Z)) (cb Z (.skip (cw Z (cw Z (cw Z (cb Z (cb Z (cb Z (cb Z (cw Z (cw Z (.cons Z .map .nil))))))))))))) ?_
 refine am ?_
 refine jn (ae (ac (jd Z (jn (zc Z (fun z22=>?_) (fun z22=>?_))))))
 refine dJ ?_
 rw[Dg hY hN z22]
 refine⟨.inl Z,_,(aa 501 510 Z Z).trans (aa 502 511 Z Z),_,Z,Z,Z⟩
 refine af (ac (js Z (ao O [504,505,506] (bin:=[aD w.vars,aD w.facts,aE w.ev]) Z Z Z Z (xe (frm:=frm) (w:=w) h1 h2 hv hl he) Z Z Z Z Z Z (B0:=25000) Z Z (am ?_))))
 refine jl Z (am ?_)
 refine jo Z (am ?_)
 refine aN (jb Z (ao O [500,501,502,503,11,25003,25004,25005] (bin:=[iB c (g.flag (!(aL t).2)) 1 2 3,aM (g.flag (!(aL t).2)).paths,aK (g.flag (!(aL t).2)).conds,aX c.num,iW frm w 5 6 7,aD w.vars,aD w.facts,aE w.ev]) Z Z Z Z (xf (c:=c) (g:=(g.flag (!(aL t).2))) (frm:=frm) (w:=w) (t:=t) h1 h2 hl) Z Z Z Z Z Z (B0:=28000) Z Z (am ?_)))
 refine jn (ae (ac (jd Z (js Z (jn (zc Z (fun z32=>?_) (fun z32=>?_)))))))
 refine ag (jb Z (ao O [500,501,502,503,25003,28009,25005,507,508,509] (bin:=[iB c (cF w t g) 1 2 3,aM (cF w t g).paths,aK (cF w t g).conds,aX c.num,aD (w.fact t).vars,aD (w.fact t).facts,aE (w.fact t).ev,pB 0,xB d8,xB d9]) Z Z Z Z (hy (by simpa using z32)) Z Z Z Z Z Z (B0:=36000) Z Z (am ?_)))
 refine jn (ae (ac (jd Z (jn (zc Z (fun z39=>?_) (fun z39=>?_))))))
 refine dJ ?_
 rw[De hN z39]
 refine⟨.inl Z,_,(aa 36010 510 Z Z).trans (aa 36011 511 Z Z),_,Z,Z,Z⟩
 refine af (ac (js Z (ao O [504,505,506] (bin:=[aD w.vars,aD w.facts,aE w.ev]) Z Z Z Z (xe (frm:=frm) (w:=w) h1 h2 hv hl he) Z Z Z Z Z Z (B0:=42000) Z Z (am ?_))))
 refine jl Z (am ?_)
 refine jo Z (am ?_)
 refine aN (jb Z (ao O [500,36010,36011,503,12,42003,42004,42005] (bin:=[iB c (Y (w.fact t) (cF w t g)) 1 2 3,aM (Y (w.fact t) (cF w t g)).paths,aK (Y (w.fact t) (cF w t g)).conds,aX c.num,iW frm w 5 6 7,aD w.vars,aD w.facts,aE w.ev]) Z Z Z Z (Az (c:=c) (g:=(Y (w.fact t) (cF w t g))) (frm:=frm) (w:=w) (t:=(aL t).1) h1 h2 hl (zX hY z39)) Z Z Z Z Z Z (B0:=45000) Z Z (am ?_)))
 refine aN (jd Z (js Z (jn (zc Z (fun z49=>?_) (fun z49=>?_)))))
 refine ag (jb Z (ao O [500,36010,36011,503,42003,45009,42005,507,508,509] (bin:=[iB c (Y (w.fact t) (cF w t g)) 1 2 3,aM (Y (w.fact t) (cF w t g)).paths,aK (Y (w.fact t) (cF w t g)).conds,aX c.num,aD (w.fact (aL t).1).vars,aD (w.fact (aL t).1).facts,aE (w.fact (aL t).1).ev,pB 0,xB d8,xB d9]) Z Z Z Z (hn z39) Z Z Z Z Z Z (B0:=53000) Z Z (am ?_)))
 refine jn ?_
 show _∧_
 refine⟨.inr Z,_,(aa 53010 510 Z Z).trans (aa 53011 511 Z Z),_,Z,Z,Z⟩
 exact absurd (show(!(Y (w.fact t) (cF w t g)).bad)=false from z49) (by rw[show(Y (w.fact t) (cF w t g)).bad=false from z39];decide)
 refine af (ae (ac (jd Z (jn (zc Z (fun z39=>?_) (fun z39=>?_))))))
 refine dJ ?_
 rw[Df hY hN z39]
 refine⟨.inl Z,_,(aa 501 510 Z Z).trans (aa 502 511 Z Z),_,Z,Z,Z⟩
 exact absurd (show(!(cF w t g).bad)=false from z32) (by rw[show(cF w t g).bad=false from z39];decide)
def fD:List Fr→D
  | []=>.nilp
  | .st t::r=>.ptr [t.d,.int .i64 0,fD r] 0
  | .lp k::_=>.ptr [.nilp,.int .i64 (k:Nat),.nilp] 0
abbrev iF(c:Pc)(g:Gs)(w:Pw):List (Nat×B):=[(0,iB c g 1 2 3),(1,aM g.paths),(2,aK g.conds),(3,aX c.num),(4,aD w.vars),(5,aD w.facts),(6,aE w.ev)]
abbrev oF(c:Pc)(g:Gs):List (Nat×B):=[(0,iB c g 10 11 3),(3,aX c.num),(10,aM g.paths),(11,aK g.conds)]
abbrev BO(a b c:D):B:=.box [.d a,.d b,.d c]
abbrev pc(L:Nat)(c:Pc)(frm:Int)(w:Pw)(g:Gs)(d:D)(g':Gs):Prop:=MC Tryz.prog L 72 [.c (.pt 0 0 0),wA frm w 4 5 6,.c (.d d)] (iF c g w) (aO (.tup []) (oF c g'))
theorem w9{L:Nat}{c:Pc}{frm:Int}{w:Pw}{g g':Gs}{d1 d2 d3:D}(h:pc L c frm w g (.ptr [d1,d2,d3] 0) g'):MC Tryz.prog L 72 [.c (.pt 0 0 0),wA frm w 4 5 6,.c (.pt 7 0 0)] (iF c g w++[(7,BO d1 d2 d3)]) (aO (.tup []) (oF c g')):=
  MC.freeze 7 Z (ck Z (ck Z (.cons (.c (.box Z (ax Z))) .nil))) (.cons Z (.box (ck Z (ck Z (ck Z (ck Z (ck Z (ck Z (ck Z (ck Z (ck Z .nil)))))))))) (cw Z (cw Z (.cons Z .map (cw Z (cw Z (cw Z (.skip .nil)))))))) Z h
theorem EK{L:Nat}{c:Pc}{frm:Int}{w:Pw}{g g':Gs}{d1 d2 e1 e2 e3:D}(h:pc L c frm w g (.ptr [d1,d2,.ptr [e1,e2,e3] 0] 0) g'):MC Tryz.prog L 72 [.c (.pt 0 0 0),wA frm w 4 5 6,.c (.pt 7 0 0)] (iF c g w++[(7,.box [.d d1,.d d2,.pt 8 0 0]),(8,BO e1 e2 e3)]) (aO (.tup []) (oF c g')):=
  MC.freeze 8 Z (ck Z (ck Z (ck Z .nil))) (.cons Z (.box (ck Z (ck Z (ck Z (ck Z (ck Z (ck Z (ck Z (ck Z (ck Z .nil)))))))))) (cw Z (cw Z (.cons Z .map (cw Z (cw Z (cw Z (.cons Z (.box (ck Z (ck Z (.cons (.box Z (ax Z)) .nil)))) (.skip .nil))))))))) Z (w9 h)
variable{g':Gs}{a:Int}{r:List Fr}
theorem Il(ih:pc L c frm w g (fD (.st x::r)) g'):MQ h1 h2 117 [wA frm w 4 5 6,.c (.pt 7 0 0),.c (.pt 8 0 0),.c (.pt 9 0 0)] (iT c g w (Tr.d (.node s a [x,y])) (fD r)) (aO (.tup []) (oT c g' (Tr.d (.node s a [x,y])) (fD r))):=by
 refine MC.shift 500 Z (MC.keep [500,503,507,508,509,510,511] (bs:=[iB c g' 510 511 503,aX c.num,pB 500,xB (Tr.d (.node s a [x,y])),xB (fD r),aM g'.paths,aK g'.conds]) Z Z (jH 17 [500,501,502,503,504,505,506,507,508,509] h1 h2 Tryz.func117 Z fun O hF=>?_))
 refine bJ ?_
 refine ac (jx Z (am ?_))
 refine jn (kx [_,_,_,_,_,_,_,_,_,_,_,_] [pn [] 0 1,pn [] 0 1,p0,pz [2],pz [2,3],pz [2,3,4],pz (rg 2 4),pz (rg 2 5),p0,pz (rg 2 7),pe (rg 2 8) 0,pe (rg 0 11) 1] [10,11] [_,_,_] [[],[501,502,504,505,506,15]] (ai (ka Z Z (kw Z Z)) (ai (ka Z Z (kw Z Z)) (ka Z Z (ka Z Z (ka Z Z (ka Z Z (ai (ai (bw O Z Z Z Z Z Z Z Z (by simp[Trs.d]) Z) Z) (ka Z Z (ka Z Z (ka Z Z (ai (ai (az (Eff.box O Z Z Z Z Z Z Z Z)) Z) (ai (ai (cn O [500,501,502,503,504,505,506,15] [501,502,504,505,506,15] (bin:=[iB c g 1 2 3,aM g.paths,aK g.conds,aX c.num,aD w.vars,aD w.facts,aE w.ev,BO (Tr.d x) (.int .i64 0) (fD r)]) Z Z Z Z (w9 ih) Z Z Z Z Z (B0:=17000) Z Z Z Z Z Z Z) Z) trivial)))))))))))) ?_)
 show _∧_
 refine GF ?_
 refine⟨.inr Z,_,(aa 17010 510 Z Z).trans (aa 17011 511 Z Z),_,Z,Z,Z⟩
theorem Ik(ih:pc L c frm w g (fD (.st y::r)) g'):MQ h1 h2 118 [wA frm w 4 5 6,.c (.pt 7 0 0),.c (.pt 8 0 0),.c (.pt 9 0 0)] (iT c g w (Tr.d (.node s a [x,y])) (fD r)) (aO (.tup []) (oT c g' (Tr.d (.node s a [x,y])) (fD r))):=by
 refine MC.shift 500 Z (MC.keep [500,503,507,508,509,510,511] (bs:=[iB c g' 510 511 503,aX c.num,pB 500,xB (Tr.d (.node s a [x,y])),xB (fD r),aM g'.paths,aK g'.conds]) Z Z (jH 17 [500,501,502,503,504,505,506,507,508,509] h1 h2 Tryz.func118 Z fun O hF=>?_))
 refine bJ ?_
 refine ac (jx Z (am ?_))
 refine jn (kx [_,_,_,_,_,_,_,_,_,_,_,_] [pn [] 0 1,pn [] 0 1,p0,pz [2],pz [2,3],pz [2,3,4],pz (rg 2 4),pz (rg 2 5),p0,pz (rg 2 7),pe (rg 2 8) 0,pe (rg 0 11) 1] [10,11] [_,_,_] [[],[501,502,504,505,506,15]] (ai (ka Z Z (kw Z Z)) (ai (ka Z Z (kw Z Z)) (ka Z Z (ka Z Z (ka Z Z (ka Z Z (ai (ai (bw O Z Z Z Z Z Z Z Z (by simp[Trs.d]) Z) Z) (ka Z Z (ka Z Z (ka Z Z (ai (ai (az (Eff.box O Z Z Z Z Z Z Z Z)) Z) (ai (ai (cn O [500,501,502,503,504,505,506,15] [501,502,504,505,506,15] (bin:=[iB c g 1 2 3,aM g.paths,aK g.conds,aX c.num,aD w.vars,aD w.facts,aE w.ev,BO (Tr.d y) (.int .i64 0) (fD r)]) Z Z Z Z (w9 ih) Z Z Z Z Z (B0:=17000) Z Z Z Z Z Z Z) Z) trivial)))))))))))) ?_)
 show _∧_
 refine GF ?_
 refine⟨.inr Z,_,(aa 17010 510 Z Z).trans (aa 17011 511 Z Z),_,Z,Z,Z⟩
set_option maxHeartbeats 8000000
theorem GL:(Tryz.prog).underlying 72=some (.map 2 2):=by kernel_rfl
theorem uK:(Tryz.prog).underlying 2=some (.int .i64):=by kernel_rfl
theorem zK:((Tryz.prog).info? 2).bind (·.zero)=some (D.val (.int .i64 0)):=by kernel_rfl
abbrev bR(E:Pe)(SS:List (List Tm))(bd lo be:D)(nm:List (Int×D)):Pc:=⟨fd E.post,.slc 1 (SS.map fun f=>[fd f]),bd,lo,be,nm⟩
structure PcOk(E:Pe)(b:List Sm)(SS:List (List Tm))(nm:List (Int×D)):Prop where
  starts: ∀k,k<b.length→(b.getD k default).kind=8→bb b k+1<SS.length∧SS.getD (bb b k+1) default=(b.getD k default).facts
  num: ∀k:Nat,k<b.length→(b.getD k default).kind=8→mE nm (k:Nat)=some (.int .i64 (bb b k:Nat))
structure FX where
  n:Nat
  r:List Fr
  w:Pw
  g:Gs
  c:Nat
structure FI(E:Pe)(b:List Sm)(frm:Int)(N L:Nat)(G:Gs)(x:FX):Prop where
  pl: ∃fl i,Pl b fl i x.r
  lt:aF x.r<x.n
  le:x.n≤N
  w:WOk x.n x.w
  g:GOk x.c x.g
  bd:x.c+rn (aF x.r)≤L
  eq:eM bD E frm x.n x.r x.w x.g=G
def C8(w:Pw):Tm:=if w.sym=10 then⟨0,[]⟩else iC w.sym
abbrev IW(w:Pw):Pw:=⟨w.vars,w.facts,w.ev,min (w.sym+1) 10⟩
abbrev BL(w:Pw)(g:Gs):Gs:=g.flag (decide (w.sym=10))
theorem Fp{L:Nat}(h1:4096≤L)(h2:L≤1073741824){c:Pc}{g:Gs}{frm:Int}{w:Pw}(hs:w.sym≤10):MC Tryz.prog L 114 [.c (.pt 0 0 0),.c (.pt 4 0 0)] (iH c g frm w) (aO (cR (C8 w)) (iH c (BL w g) frm (IW w))):=by
 by_cases h:w.sym=10
 have e:IW w=w:=by obtain⟨a,b,c,d⟩:=w;simp only at h;subst h;rfl
 rw[C8,if_pos h,e,BL,decide_eq_true h,lQ]
 exact BF (fun h=>RA.zero h) (Fq h1 h2 h)
 have e:min (w.sym+1) 10=w.sym+1:=by omega
 rw[C8,if_neg h,IW,e,BL,decide_eq_false h,io]
 exact Im h1 h2 (by omega)
theorem EI{la:dv}{s:Sm}{w:Pw}{g:Gs}(h:s.kind=2):bN la s w g=(w.set s.var.toNat (aG s.sum w.vars).1,aU w s.sum g):=if_pos h
theorem EH{la:dv}{s:Sm}{w:Pw}{g:Gs}(h:s.kind=3)(hs:w.sym≤10):bN la s w g=(⟨w.vars.set s.var.toNat (C8 w),w.facts,w.ev,min (w.sym+1) 10⟩,BL w (ce la w s.index g)):=by
 rw[bN,if_neg (by omega),if_pos h]
 by_cases h0:w.sym=10
 rw[if_pos h0,C8,if_pos h0,BL,decide_eq_true h0]
 obtain⟨a,b,c,d⟩:=w;simp only at h0;subst h0;rfl
 rw[if_neg h0,C8,if_neg h0,BL,decide_eq_false h0,io,nR,show min (w.sym+1) 10=w.sym+1 by omega]
theorem EG{la:dv}{s:Sm}{w:Pw}{g:Gs}(h:s.kind=4):bN la s w g=(w,ce la w s.index g):=by
 rw[bN,if_neg (by omega),if_neg (by omega),if_pos h]
theorem EF{la:dv}{s:Sm}{w:Pw}{g:Gs}(h:s.kind=5):bN la s w g=(⟨w.vars,w.facts,w.ev++[s.event],w.sym⟩,g):=by
 rw[bN,if_neg (by omega),if_neg (by omega),if_neg (by omega),if_pos h]
theorem EE{la:dv}{s:Sm}{w:Pw}{g:Gs}(h:s.kind=6):bN la s w g=(w.fact (aG s.sum w.vars).1,(dT w (aG s.sum w.vars).1 (aU w s.sum g)).flag (w.fact (aG s.sum w.vars).1).long):=by
 rw[bN,if_neg (by omega),if_neg (by omega),if_neg (by omega),if_neg (by omega),if_pos h,dT,eU,show(!true)=false from Z,io]
theorem EJ{la:dv}{s:Sm}{w:Pw}{g:Gs}(h2: ¬s.kind=2)(h3: ¬s.kind=3)(h4: ¬s.kind=4)(h5: ¬s.kind=5)(h6: ¬s.kind=6):bN la s w g=(w,g):=by
 rw[bN,if_neg h2,if_neg h3,if_neg h4,if_neg h5,if_neg h6]
theorem Fw{L:Nat}(h1:4096≤L)(h2:L≤1073741824){E:Pe}{b:List Sm}{SS:List (List Tm)}{bd lo be:D}{nm:List (Int×D)}{frm:Int}{w0:Pw}{g0 G:Gs}{r0:List Fr}{N c0:Nat}(hE:EOk E b)(hbl:b.length≤1000)(hP:PcOk E b SS nm)
  (ih: ∀n,n<N→∀{r:List Fr} {w:Pw} {g:Gs} {c:Nat},(∃fl i,Pl b fl i r)→aF r<n→WOk n w→GOk c g→c+rn (aF r)≤L→pc L (bR E SS bd lo be nm) frm w g (fD r) (eM bD E frm n r w g))
  (hi0:FI E b frm N L G ⟨N,r0,w0,g0,c0⟩):pc L (bR E SS bd lo be nm) frm w0 g0 (fD r0) G:=by
 refine MC.shift 500 Z (MC.keep [500,503,510,511] (bs:=[iB (bR E SS bd lo be nm) G 510 511 503,aX nm,aM G.paths,aK G.conds]) Z Z (jH 218 [500,501,502,503,504,505,506] h1 h2 Tryz.func72 Z fun O hF=>?_))
 refine bJ ?_
 refine ac (jx Z (am ?_))
 refine jx Z (am ?_)
 refine jn (ak (ap (X:=FX) (fun x=>⟨[(2,.c (.d (fD x.r))),(3,.c (.pt 3 0 0)),(4,.c (.pt 4 0 0))],[(3,pB 500),(4,iW frm x.w 904 905 906),(500,iB (bR E SS bd lo be nm) x.g 901 902 503),(503,aX nm),(901,aM x.g.paths),(902,aK x.g.conds),(904,aD x.w.vars),(905,aD x.w.facts),(906,aE x.w.ev)]⟩) (fun x=>FI E b frm N L G x) (fun x=>x.n) ⟨N,r0,w0,g0,c0⟩ (((((((ah [3,4,500,503,501,502,504,505,506] (e':=[(2,_),(3,_),(4,_)]) Z Z ⟨Z,Z,Z,tv⟩ Z).trans (aa 501 901 Z Z)).trans (aa 502 902 Z Z)).trans (aa 504 904 Z Z)).trans (aa 505 905 Z Z)).trans (aa 506 906 Z Z)).trans (Ent.to ⟨Z,Z,Z,tv⟩ Z)) ?_ (fun x hi=>?_)))
 exact hi0
 obtain⟨n,r,w,g,cc⟩:=x
 obtain⟨⟨fl,i0,hp⟩,hlt,hle,hw,hg,hbd,hG⟩:=hi
 dsimp only at hp hlt hle hw hg hbd hG
 refine iU (Ent.to (e':=[(2,.c (.d (fD r))),(3,.c (.pt 3 0 0)),(4,.c (.pt 4 0 0))]) (H':=[(3,pB 500),(4,iW frm w 904 905 906),(500,iB (bR E SS bd lo be nm) g 901 902 503),(503,aX nm),(901,aM g.paths),(902,aK g.conds),(904,aD w.vars),(905,aD w.facts),(906,aE w.ev)]) ⟨Z,Z,Z,tv⟩ Z) ?_
 obtain⟨n,rfl⟩: ∃m,n=m+1:=⟨n-1,by omega⟩
 have hge:=v9 (m:=aF r)
 have hgc:=hg.conds
 have hgp:=hg.paths
 have hva:=s9 hw.ctx hw.vars
 have hv4:=hw.vars
 have hfa:=hw.facts
 have hev:=hw.ev
 have hsy:=hw.sym
 refine ae (ac (jd Z (jb Z (jn (zc Z (fun z15=>?_) (fun z15=>?_))))))
 refine af ?_
 cases hp with
 | nil=>
  have hb:g.bad=false:=by simpa using z15
  refine ak (ae (ac (jb Z (jn (zc Z (fun z17=>?_) (fun z17=>?_))))))
  refine ae (kx [_,_,_,_,_,_,_,_,_] [p0,pz [0],pz [0,1],p0,pz [3],pz [3,4],pz [3,4,5],pz (rg 3 4),pe (rg 0 8) 0] [8] [_,_] [[901,902]] (ka Z Z (ka Z Z (ka Z Z (ka Z Z (ka Z Z (ka Z Z (ka Z Z (ka Z Z (ai (ai (cn O [500,901,902,503,4,904,905,906] [901,902] (bin:=[iB (bR E SS bd lo be nm) g 1 2 3,aM g.paths,aK g.conds,aX nm,iW frm w 5 6 7,aD w.vars,aD w.facts,aE w.ev]) Z Z Z Z (zP (c:=(bR E SS bd lo be nm)) (g:=g) (frm:=frm) (w:=w) (to:= -1) (fs:=E.post) h1 h2 hw.ctx hw.vars hE.post.1 (by have:=hE.post.2;omega) (by omega)) Z Z Z Z Z (B0:=27000) Z Z Z Z Z Z Z) Z) trivial))))))))) ?_)
  refine jw [17,16,15,2,3,4] Z (bJ ?_)
  refine dJ ?_
  rw[←hG,f5 hb]
  refine⟨.inl Z,_,(aa 27009 510 Z Z).trans (aa 27008 511 Z Z),_,Z,Z,Z⟩
  cases z17
 | @lp i k r hi hs hk h8=>
  have hb:g.bad=false:=by simpa using z15
  obtain⟨hs1,hs2⟩:=hP.starts _ hk h8
  have hf:=iN (hE.st _ hk)
  have hlf:=hE.lf _ hk h8
  have hnk:=gB (b:=b) (k:=k)
  refine ak (ae (ac (jb Z (jn (zc Z (fun z17=>?_) (fun z17=>?_))))))
  cases z17
  refine af (ae (ac (jd Z (js Z (jn (zc Z (fun z31=>?_) (fun z31=>?_)))))))
  refine ae (kx [_,_,_,_,_,_,_,_,_,_,_,_,_,_,_,_,_,_,_,_] [p0,pz [0],pz [0,1],p0,pz [3],pz [3,4],pz [3,4,5],p0,pz [7],pz [7,8],pz [7,8,9],pz (rg 7 4),p0,pz [12],pz [12,13],pz [12,13,14],pz (rg 12 4),pz (rg 7 10),pz (rg 7 11),pe (rg 0 19) 0] [19] [_,_] [[901,902]] (ka Z Z (ka Z Z (ka Z Z (ka Z Z (ka Z Z (ka Z Z (ka Z Z (ka Z Z (ka Z Z (ka Z Z (ka Z Z (ka Z Z (ka Z Z (ka Z Z (ka Z Z (ka Z Z (ai (ai ((vF Z).cast (v':=eI ((bb b k+1:Nat):Int)) (congrArg eI (by omega))) Z) (ai (ai ((aQ O Z Z Z Z Z Z Z Z (dx hs1)).cast (v':=ptr [fd (b.getD k default).facts]) (by rw[hs2])) Z) (ka Z Z (ai (ai (cn O [500,901,902,503,4,904,905,906] [901,902] (bin:=[iB (bR E SS bd lo be nm) g 1 2 3,aM g.paths,aK g.conds,aX nm,iW frm w 5 6 7,aD w.vars,aD w.facts,aE w.ev]) Z Z Z Z (zP (c:=(bR E SS bd lo be nm)) (g:=g) (frm:=frm) (w:=w) (to:=(bb b k:Nat)) (fs:=(b.getD k default).facts) h1 h2 hw.ctx hw.vars hf.1 (by have:=hf.2;omega) (by omega)) Z Z Z Z Z (B0:=52000) Z Z Z Z Z Z Z) Z) trivial)))))))))))))))))))) ?_)
  refine jw [31,17,16,15,2,3,4] Z (bJ ?_)
  refine dJ ?_
  rw[←hG,i8 hb,hlf]
  refine⟨.inl Z,_,(aa 52009 510 Z Z).trans (aa 52008 511 Z Z),_,Z,Z,Z⟩
  cases z31
 | @leaf i k r hi hs hk h0 h=>
  have hb:g.bad=false:=by simpa using z15
  have hst:=hE.st _ hk
  have htm:=lu hst
  have hne:=iR h0
  generalize hs0:b.getD k default=s at hst htm hG hlt hbd hge hne ⊢
  have hbl2:=qE (m:=aF r)
  simp only[aF,Fr.nodes,Tr.nodes,Trs.nodes,Nat.add_zero,Nat.add_comm 1]at hlt hbd hge
  rw[e9 hb]at hG
  refine ak (ae (ac (jb Z (jn (zc Z (fun z17=>?_) (fun z17=>?_))))))
  cases z17
  refine af (ae (ac (jd Z (js Z (jn (zc Z (fun z31=>?_) (fun z31=>?_)))))))
  cases z31
  refine af (ae (rk [_,_,_,_,_,_,_,_,_,_,_,_] [pn [] 0 1,pn [0] 0 1,pn [0,1] 0 1,pn [0,1,2] 0 1,pn [] 0 2,pn [4] 0 2,pn [4,5] 0 2,pn [4,5,6] 0 2,pn [] 0 1,pe [] 0,pe [0,1,2,3,8,9] 1,pe [0,1,2,3,4,5,6,7,8,9,10] 2] [9,10,11] 8 6 (.box [.d .nilp]) [_,_] [_,_] [] (ai (kf Z Z Z (kg Z Z Z)) (ai (kf Z Z Z (kg Z Z Z)) (ai (kf Z Z Z (kg Z Z Z)) (ai (kf Z Z Z (kg Z Z Z)) (ai (kf Z Z Z (kf Z Z Z (kg Z Z Z))) (ai (kf Z Z Z (kf Z Z Z (kg Z Z Z))) (ai (kf Z Z Z (kf Z Z Z (kg Z Z Z))) (ai (kf Z Z Z (kf Z Z Z (kg Z Z Z))) (ai (ai (ai (az (Eff.alloc O Z Z Z Z Z Z)) Z) (ai (az (Eff.alloc O Z Z Z Z Z Z)) Z)) (ai (ai (au (az (Eff.alloc O Z Z Z Z Z Z)) (az (Eff.alloc O Z Z Z Z Z Z))) Z) (ai (ai (au trivial (az (eS Z Z Z))) Z) (ai (ai (au trivial (az (eS Z Z Z))) Z) trivial)))))))))))) ?_))
  refine jw [7,6,31,17,16,15,2,3,4] Z (bJ ?_)
  refine ae (ac (jd Z (js Z (jn ?_))))
  obtain⟨d,ed⟩: ∃d,d=bN bD s w g:=⟨_,rfl⟩
  refine mS ⟨[(3,.c (.pt 3 0 0)),(4,.c (.pt 4 0 0)),(7,.c (.pt 7 0 0))],[(3,pB 500),(7,xB (fD r)),(4,iW frm d.1 904 905 906),(500,iB (bR E SS bd lo be nm) d.2 901 902 503),(503,aX nm),(901,aM d.2.paths),(902,aK d.2.conds),(904,aD d.1.vars),(905,aD d.1.facts),(906,aE d.1.ev)]⟩ ?_ ?_
  refine ak (ac (jb Z (jn (zc Z (fun z65=>?_) (fun z65=>?_)))))
  exact absurd (bt z65) (by omega)
  refine ac (jb Z (jn (zc Z (fun z84=>?_) (fun z84=>?_))))
  have hsv2:=vH hst (.inl (bt z84))
  refine fJ [_,_,_,_,_,_,_,_,_,_,_,_,_,_,_,_,_,_] [pn [] 0 1,pn [0] 0 1,pn [] 0 1,pn [2] 0 1,pn [2,3] 0 1,pn [2,3,4] 0 1,pn (rg 2 4) 0 1,p0,pz [7],pz [7,8],p0,pz [10],pz [10,11],pz [10,11,12],pz (rg 10 4),pe (rg 7 8) 0,pn (rg 0 16) 1 1,pe (rg 0 17) 1] [15,17] [_,[(3,pB 500),(6,xB (Tr.d (.node s (k:Nat) []))),(7,xB (fD r)),(500,iB (bR E SS bd lo be nm) (aU w s.sum g) 901 902 503),(901,aM (aU w s.sum g).paths),(902,aK (aU w s.sum g).conds),(503,aX nm),(4,iW frm w 904 905 906),(904,aD w.vars),(905,aD w.facts),(906,aE w.ev)],_] (ai (kc Z (V Z)) (ai (kc Z (V Z)) (ai (kc Z (V Z)) (ai (kc Z (V Z)) (ai (kc Z (V Z)) (ai (kc Z (V Z)) (ai (kc Z (V Z)) (k4 Z (k4 Z (ai (b0 O [500,901,902,503,4,904,905,906] (bin:=[iB (bR E SS bd lo be nm) g 1 2 3,aM g.paths,aK g.conds,aX nm,iW frm w 5 6 7,aD w.vars,aD w.facts,aE w.ev]) Z Z Z Z (oB (c:=(bR E SS bd lo be nm)) (frm:=frm) (w:=w) (g:=g) (t:=s.sum) h1 h2 htm.1.1 hva (by have:=htm.1.2;omega)) Z Z Z Z Z (B0:=102000) Z Z Z Z Z Z) (ai (vI Z Z) (ai (cE (ex:=Tm.cells (w.vars.getD s.var.toNat default)) (xs':=(w.vars.set s.var.toNat (aG s.sum w.vars).1).map Tm.cells) O Z Z Z Z Z Z Z Z Z Z Z Z Z Z Z (GH (by omega) (by omega)) (GB (v:=(aG s.sum w.vars).1) (by omega) Z) Z) trivial)))))))))))) ?_
  rw[ed,EI (bt z84)]
  refine Gt ?_
  exact⟨Z,(ah [3,7,4,500,503,901,902,904,905,906] (e':=[(3,_),(4,_),(7,_)]) Z Z ⟨Z,Z,Z,tv⟩ Z).trans (Ent.to ⟨Z,Z,Z,tv⟩ (by simp only[Pw.set,iW,List.length_set];rfl))⟩
  refine ac (jb Z (jn (zc Z (fun z103=>?_) (fun z103=>?_))))
  refine ae (kx [_,_,_,_,_,_,_,_,_,_,_,_,_] [pn [] 0 1,pn [0] 0 1,pn [0,1] 0 1,p0,pz [3],pz [3,4],p0,pz [6],pz [6,7],pz [6,7,8],pz (rg 6 4),pe (rg 3 8) 0,pe (rg 0 12) 1] [11,12] [_,[(3,pB 500),(6,xB (Tr.d (.node s (k:Nat) []))),(7,xB (fD r)),(500,iB (bR E SS bd lo be nm) (aU w s.index g) 901 902 503),(901,aM (aU w s.index g).paths),(902,aK (aU w s.index g).conds),(503,aX nm),(4,iW frm w 904 905 906),(904,aD w.vars),(905,aD w.facts),(906,aE w.ev)],[(3,pB 500),(6,xB (Tr.d (.node s (k:Nat) []))),(7,xB (fD r)),(500,iB (bR E SS bd lo be nm) (ce bD w s.index g) 901 118008 503),(901,aM (ce bD w s.index g).paths),(503,aX nm),(4,iW frm w 904 905 906),(904,aD w.vars),(905,aD w.facts),(906,aE w.ev),(118008,aK (ce bD w s.index g).conds)]] [[],[902]] (ai (ka Z Z (kw Z Z)) (ai (ka Z Z (kw Z Z)) (ai (ka Z Z (kw Z Z)) (ka Z Z (ka Z Z (ka Z Z (ka Z Z (ka Z Z (ka Z Z (ka Z Z (ka Z Z (ai (ai (az (b0 O [500,901,902,503,4,904,905,906] (bin:=[iB (bR E SS bd lo be nm) g 1 2 3,aM g.paths,aK g.conds,aX nm,iW frm w 5 6 7,aD w.vars,aD w.facts,aE w.ev]) Z Z Z Z (oB (c:=(bR E SS bd lo be nm)) (frm:=frm) (w:=w) (g:=g) (t:=s.index) h1 h2 htm.2.1 hva (by have:=htm.2.2;omega)) Z Z Z Z Z (B0:=117000) Z Z Z Z Z Z)) Z) (ai (ai (cn O [500,901,902,503,4,904,905,906] [902] (bin:=[iB (bR E SS bd lo be nm) (aU w s.index g) 1 2 3,aM (aU w s.index g).paths,aK (aU w s.index g).conds,aX nm,iW frm w 5 6 7,aD w.vars,aD w.facts,aE w.ev]) Z Z Z Z (DH (c:=(bR E SS bd lo be nm)) (frm:=frm) (w:=w) (g:=(aU w s.index g)) (t:=(aG s.index w.vars).1) h1 h2 eU (show g.conds.length+2≤L by omega)) Z Z Z Z Z (B0:=118000) Z Z Z Z Z Z Z) Z) trivial))))))))))))) ?_)
  refine jw [103,104,84,85,65,66,64,7,6,31,17,16,15,2,3,4] Z (bJ ?_)
  have hsv2:=vH hst (.inr (bt z103))
  refine fJ [_,_,_,_,_,_,_,_,_,_,_,_,_] [pn [] 0 1,pn [0] 0 1,pn [] 0 1,pn [2] 0 1,pn [2,3] 0 1,pn [2,3,4] 0 1,pn (rg 2 4) 0 1,p0,pz [7],pz [7,8],pe [7,8,9] 0,pn (rg 0 11) 1 1,pe (rg 0 12) 1] [10,12] [_,[(3,pB 500),(6,xB (Tr.d (.node s (k:Nat) []))),(7,xB (fD r)),(500,iB (bR E SS bd lo be nm) (BL w (ce bD w s.index g)) 901 118008 503),(901,aM (BL w (ce bD w s.index g)).paths),(118008,aK (BL w (ce bD w s.index g)).conds),(503,aX nm),(4,iW frm (IW w) 904 905 906),(904,aD w.vars),(905,aD w.facts),(906,aE w.ev)],_] (ai (kc Z (V Z)) (ai (kc Z (V Z)) (ai (kc Z (V Z)) (ai (kc Z (V Z)) (ai (kc Z (V Z)) (ai (kc Z (V Z)) (ai (kc Z (V Z)) (kc Z (kc Z (kc Z (ai (b0 O [500,901,118008,503,4,904,905,906] (bin:=[iB (bR E SS bd lo be nm) (ce bD w s.index g) 1 2 3,aM (ce bD w s.index g).paths,aK (ce bD w s.index g).conds,aX nm,iW frm w 5 6 7,aD w.vars,aD w.facts,aE w.ev]) Z Z Z Z (Fp (c:=(bR E SS bd lo be nm)) (frm:=frm) (w:=w) (g:=(ce bD w s.index g)) h1 h2 hsy) Z Z Z Z Z (B0:=129000) Z Z Z Z Z Z) (ai (vI Z Z) (ai (cE (ex:=Tm.cells (w.vars.getD s.var.toNat default)) (xs':=(w.vars.set s.var.toNat (C8 w)).map Tm.cells) O Z Z Z Z Z Z Z Z Z Z Z Z Z Z Z (GH (by omega) (by omega)) (GB (v:=(C8 w)) (by omega) Z) Z) trivial))))))))))))) ?_
  rw[ed,EH (bt z103) hw.sym]
  refine Gt ?_
  exact⟨Z,((ah [3,7,4,500,503,901,118008,904,905,906] (e':=[(3,_),(4,_),(7,_)]) Z Z ⟨Z,Z,Z,tv⟩ Z).trans (aa 118008 902 Z Z)).trans (Ent.to ⟨Z,Z,Z,tv⟩ (by simp only[Pw.set,iW,List.length_set];rfl))⟩
  refine ac (jb Z (jn (zc Z (fun z130=>?_) (fun z130=>?_))))
  refine kx [_,_,_,_,_,_,_,_,_,_,_,_,_] [pn [] 0 1,pn [0] 0 1,pn [0,1] 0 1,p0,pz [3],pz [3,4],p0,pz [6],pz [6,7],pz [6,7,8],pz (rg 6 4),pe (rg 3 8) 0,pe (rg 0 12) 1] [11,12] [_,[(3,pB 500),(6,xB (Tr.d (.node s (k:Nat) []))),(7,xB (fD r)),(500,iB (bR E SS bd lo be nm) (aU w s.index g) 901 902 503),(901,aM (aU w s.index g).paths),(902,aK (aU w s.index g).conds),(503,aX nm),(4,iW frm w 904 905 906),(904,aD w.vars),(905,aD w.facts),(906,aE w.ev)],[(3,pB 500),(6,xB (Tr.d (.node s (k:Nat) []))),(7,xB (fD r)),(500,iB (bR E SS bd lo be nm) (ce bD w s.index g) 901 145008 503),(901,aM (ce bD w s.index g).paths),(503,aX nm),(4,iW frm w 904 905 906),(904,aD w.vars),(905,aD w.facts),(906,aE w.ev),(145008,aK (ce bD w s.index g).conds)]] [[],[902]] (ai (ka Z Z (kw Z Z)) (ai (ka Z Z (kw Z Z)) (ai (ka Z Z (kw Z Z)) (ka Z Z (ka Z Z (ka Z Z (ka Z Z (ka Z Z (ka Z Z (ka Z Z (ka Z Z (ai (ai (az (b0 O [500,901,902,503,4,904,905,906] (bin:=[iB (bR E SS bd lo be nm) g 1 2 3,aM g.paths,aK g.conds,aX nm,iW frm w 5 6 7,aD w.vars,aD w.facts,aE w.ev]) Z Z Z Z (oB (c:=(bR E SS bd lo be nm)) (frm:=frm) (w:=w) (g:=g) (t:=s.index) h1 h2 htm.2.1 hva (by have:=htm.2.2;omega)) Z Z Z Z Z (B0:=144000) Z Z Z Z Z Z)) Z) (ai (ai (cn O [500,901,902,503,4,904,905,906] [902] (bin:=[iB (bR E SS bd lo be nm) (aU w s.index g) 1 2 3,aM (aU w s.index g).paths,aK (aU w s.index g).conds,aX nm,iW frm w 5 6 7,aD w.vars,aD w.facts,aE w.ev]) Z Z Z Z (DH (c:=(bR E SS bd lo be nm)) (frm:=frm) (w:=w) (g:=(aU w s.index g)) (t:=(aG s.index w.vars).1) h1 h2 eU (show g.conds.length+2≤L by omega)) Z Z Z Z Z (B0:=145000) Z Z Z Z Z Z Z) Z) trivial))))))))))))) ?_
  rw[ed,EG (bt z130)]
  refine Gt ?_
  exact⟨Z,((ah [3,7,4,500,503,901,145008,904,905,906] (e':=[(3,_),(4,_),(7,_)]) Z Z ⟨Z,Z,Z,tv⟩ Z).trans (aa 145008 902 Z Z)).trans (Ent.to ⟨Z,Z,Z,tv⟩ Z)⟩
  refine ac (jb Z (jn (zc Z (fun z145=>?_) (fun z145=>?_))))
  refine kx [_,_,_,_,_,_,_,_,_,_,_] [pn [] 0 1,pn [0] 0 1,p0,pz [2],pz [2,3],pz [2,3,4],pz (rg 2 4),pe (rg 2 5) 0,pe (rg 0 8) 1,pn (rg 0 9) 2 2,pe (rg 0 10) 2] [7,8,10] [_,_,_,_] [[],[906],[]] (ai (ka Z Z (kw Z Z)) (ai (ka Z Z (kw Z Z)) (ka Z Z (ka Z Z (ka Z Z (ka Z Z (ka Z Z (ai (ai (az (cD O Z Z Z Z Z Z Z Z Z Z Z Z Z Z)) Z) (ai (ai (bW (own:=true) (xs:=w.ev.map (fun n=>[D.int .i64 n])) (ys:=[[.int .i64 s.event]]) (zs:=(w.ev++[s.event]).map (fun n=>[D.int .i64 n])) (n:=(w.ev++[s.event]).length) O Z Z Z Z Z Z Z Z Z Z Z Z Z Z Z Z (.row Z (bA _).symm) (.whole Z Z (.inl (by simp[Scal,D.scalar]))) (by simp) Z (by simp;omega) (by simp;omega) (by simp) (by simp) Z) Z) (ka Z Z (ai (ai (az (eS Z Z Z)) Z) trivial))))))))))) ?_
  rw[ed,EF (bt z145)]
  refine Gt ?_
  exact⟨Z,((ah [3,7,4,500,503,901,902,904,905,155] (e':=[(3,_),(4,_),(7,_)]) Z Z ⟨Z,Z,Z,tv⟩ Z).trans (aa 155 906 Z Z)).trans (Ent.to ⟨Z,Z,Z,tv⟩ Z)⟩
  refine ac (jb Z (jn (zc Z (fun z157=>?_) (fun z157=>?_))))
  refine ae (rk [_,_,_,_,_,_,_,_,_,_,_] [p0,pz [0],pz [0,1],p0,pz [3],pz [3,4],pz [3,4,5],pz [3,4,5,6],pe [0,1,2,3,4,5,6,7] 0,pn [] 0 1,pe [0,1,2,3,4,5,6,7,8,9] 1] [8,10] 9 8 (.box [.d (.int .i64 0),.d .nils]) [_,[(3,pB 500),(6,xB (Tr.d (.node s (k:Nat) []))),(7,xB (fD r)),(500,iB (bR E SS bd lo be nm) (aU w s.sum g) 901 902 503),(901,aM (aU w s.sum g).paths),(902,aK (aU w s.sum g).conds),(503,aX nm),(4,iW frm w 904 905 906),(904,aD w.vars),(905,aD w.facts),(906,aE w.ev)]] [_] [] (kf Z Z Z (kf Z Z Z (kf Z Z Z (kf Z Z Z (kf Z Z Z (kf Z Z Z (kf Z Z Z (kf Z Z Z (ai (ai (au (az (b0 O [500,901,902,503,4,904,905,906] (bin:=[iB (bR E SS bd lo be nm) g 1 2 3,aM g.paths,aK g.conds,aX nm,iW frm w 5 6 7,aD w.vars,aD w.facts,aE w.ev]) Z Z Z Z (oB (c:=(bR E SS bd lo be nm)) (frm:=frm) (w:=w) (g:=g) (t:=s.sum) h1 h2 htm.1.1 hva (by have:=htm.1.2;omega)) Z Z Z Z Z (B0:=168000) Z Z Z Z Z Z)) (az (b0 O [500,901,902,503,4,904,905,906] (bin:=[iB (bR E SS bd lo be nm) g 1 2 3,aM g.paths,aK g.conds,aX nm,iW frm w 5 6 7,aD w.vars,aD w.facts,aE w.ev]) Z Z Z Z (oB (c:=(bR E SS bd lo be nm)) (frm:=frm) (w:=w) (g:=g) (t:=s.sum) h1 h2 htm.1.1 hva (by have:=htm.1.2;omega)) Z Z Z Z Z (B0:=168000) Z Z Z Z Z Z))) Z) (ai (ai (ai (az (Eff.alloc O Z Z Z Z Z Z)) Z) (ai (az (Eff.alloc O Z Z Z Z Z Z)) Z)) (ai (ai (au trivial (az (eS Z Z Z))) Z) trivial))))))))))) ?_)
  refine jw [8,157,158,145,146,130,131,103,104,84,85,65,66,64,7,6,31,17,16,15,2,3,4] Z (bJ ?_)
  refine ae (kx [_,_,_,_,_] [p0,pz [0],pz [0,1],p0,pe (rg 0 4) 0] [4] [_,_] [[902]] (ka Z Z (ka Z Z (ka Z Z (ka Z Z (ai (ai (cn O [500,901,902,503,4,904,905,906] [902] (bin:=[iB (bR E SS bd lo be nm) (aU w s.sum g) 1 2 3,aM (aU w s.sum g).paths,aK (aU w s.sum g).conds,aX nm,iW frm w 5 6 7,aD w.vars,aD w.facts,aE w.ev]) Z Z Z Z (xg (c:=(bR E SS bd lo be nm)) (frm:=frm) (w:=w) (g:=(aU w s.sum g)) (t:=(aG s.sum w.vars).1) h1 h2 (show g.conds.length+1≤L by omega)) Z Z Z Z Z (B0:=173000) Z Z Z Z Z Z Z) Z) trivial))))) ?_)
  refine jw [8,157,158,145,146,130,131,103,104,84,85,65,66,64,7,6,31,17,16,15,2,3,4] Z (bJ ?_)
  refine kx [_,_,_,_,_] [p0,pz [0],pz [0,1],p0,pe (rg 0 4) 0] [4] [_,_] [[905]] (ka Z Z (ka Z Z (ka Z Z (ka Z Z (ai (ai (cn O [500,901,173008,503,4,904,905,906] [905] (bin:=[iB (bR E SS bd lo be nm) (dT w (aG s.sum w.vars).1 (aU w s.sum g)) 1 2 3,aM (dT w (aG s.sum w.vars).1 (aU w s.sum g)).paths,aK (dT w (aG s.sum w.vars).1 (aU w s.sum g)).conds,aX nm,iW frm w 5 6 7,aD w.vars,aD w.facts,aE w.ev]) Z Z Z Z (xf (c:=(bR E SS bd lo be nm)) (frm:=frm) (w:=w) (g:=dT w (aG s.sum w.vars).1 (aU w s.sum g)) (t:=(aG s.sum w.vars).1) h1 h2 (by omega)) Z Z Z Z Z (B0:=178000) Z Z Z Z Z Z Z) Z) trivial))))) ?_
  rw[ed,EE (bt z157)]
  refine Gt ?_
  exact⟨Z,(((ah [3,7,4,500,503,901,173008,904,178009,906] (e':=[(3,_),(4,_),(7,_)]) Z Z ⟨Z,Z,Z,tv⟩ Z).trans (aa 173008 902 Z Z)).trans (aa 178009 905 Z Z)).trans (Ent.to ⟨Z,Z,Z,tv⟩ Z)⟩
  refine ac (jb Z (jn (zc Z (fun z178=>?_) (fun z178=>?_))))
  exact absurd (bt z178) (by omega)
  refine ac (jb Z (jn (zc Z (fun z196=>?_) (fun z196=>?_))))
  exact absurd (bt z196) (by omega)
  refine af ?_
  rw[ed,EJ (b9 z84) (b9 z103) (b9 z130) (b9 z145) (b9 z157)]
  refine Gt ?_
  exact⟨Z,(ah [3,7,4,500,503,901,902,904,905,906] (e':=[(3,_),(4,_),(7,_)]) Z Z ⟨Z,Z,Z,tv⟩ Z).trans (Ent.to ⟨Z,Z,Z,tv⟩ Z)⟩
  refine ag (jb Z (jn ?_))
  exact⟨⟨n,r,d.1,d.2,cc+2⟩,((ah [3,4,500,503,901,902,904,905,906] (e':=[(2,_),(3,_),(4,_)]) Z Z ⟨Z,Z,Z,tv⟩ Z)).trans (Ent.to ⟨Z,Z,Z,tv⟩ Z),⟨⟨fl,_,h⟩,by show aF r<n;omega,by show n≤N;omega,ed ▸ hw.leaf,ed ▸ tk hg,by show cc+2+rn (aF r)≤L;omega,ed ▸ hG⟩,Nat.lt_succ_self n⟩
 | @seq i k x y r hk1 h=>
  have hb:g.bad=false:=by simpa using z15
  generalize hs0:b.getD k default=s at hk1 hG hlt hbd hge ⊢
  rw[f3 hb hk1]at hG
  refine ak (ae (ac (jb Z (jn (zc Z (fun z17=>?_) (fun z17=>?_))))))
  cases z17
  refine af (ae (ac (jd Z (js Z (jn (zc Z (fun z31=>?_) (fun z31=>?_)))))))
  cases z31
  refine af (ae (rk [_,_,_,_,_,_,_,_,_,_,_,_] [pn [] 0 1,pn [0] 0 1,pn [0,1] 0 1,pn [0,1,2] 0 1,pn [] 0 2,pn [4] 0 2,pn [4,5] 0 2,pn [4,5,6] 0 2,pn [] 0 1,pe [] 0,pe [0,1,2,3,8,9] 1,pe [0,1,2,3,4,5,6,7,8,9,10] 2] [9,10,11] 8 6 (.box [.d .nilp]) [_,_] [_,_] [] (ai (kf Z Z Z (kg Z Z Z)) (ai (kf Z Z Z (kg Z Z Z)) (ai (kf Z Z Z (kg Z Z Z)) (ai (kf Z Z Z (kg Z Z Z)) (ai (kf Z Z Z (kf Z Z Z (kg Z Z Z))) (ai (kf Z Z Z (kf Z Z Z (kg Z Z Z))) (ai (kf Z Z Z (kf Z Z Z (kg Z Z Z))) (ai (kf Z Z Z (kf Z Z Z (kg Z Z Z))) (ai (ai (ai (az (Eff.alloc O Z Z Z Z Z Z)) Z) (ai (az (Eff.alloc O Z Z Z Z Z Z)) Z)) (ai (ai (au (az (Eff.alloc O Z Z Z Z Z Z)) (az (Eff.alloc O Z Z Z Z Z Z))) Z) (ai (ai (au trivial (az (eS Z Z Z))) Z) (ai (ai (au trivial (az (eS Z Z Z))) Z) trivial)))))))))))) ?_))
  refine jw [7,6,31,17,16,15,2,3,4] Z (bJ ?_)
  refine ae (ac (jd Z (js Z (jn (ak (ac (jb Z (jn (zc Z (fun z65=>?_) (fun z65=>?_))))))))))
  refine fJ [_,_,_,_,_,_,_,_,_,_,_,_,_,_,_,_,_,_] [pn [] 0 1,pn [0] 0 1,pn [0,1] 0 1,pn [0,1,2] 0 1,pn (rg 0 4) 0 1,pn (rg 0 5) 0 1,p0,pz [6],pz [6,7],pz [6,7,8],pz (rg 6 4),pz (rg 6 5),p0,pz (rg 6 7),pe (rg 6 8) 0,pn (rg 0 15) 1 1,pe (rg 0 16) 1,pe (rg 0 17) 2] [14,16,17] [_,_,_,_] (ai (kc Z (V Z)) (ai (kc Z (V Z)) (ai (kc Z (V Z)) (ai (kc Z (V Z)) (ai (ai (bw O Z Z Z Z Z Z Z Z (by simp[Trs.d]) Z) (bw O Z Z Z Z Z Z Z Z (by simp[Trs.d]) Z)) (ai (kc Z (V Z)) (k4 Z (ai (bw O Z Z Z Z Z Z Z Z (by simp[Trs.d]) Z) (kc Z (kc Z (kc Z (ai (Eff.box O Z Z Z Z Z Z Z Z) (kc Z (ai (Eff.box O Z Z Z Z Z Z Z Z) (ai (eS Z Z Z) trivial))))))))))))))) ?_
  refine jw [65,66,64,7,6,31,17,16,15,2,3,4] Z (bJ ?_)
  refine ag (an (Ent.freeze 81 (e':=[(2,_),(3,_),(4,_),(7,_)]) Z (fe [2,3,4,7] Z) (cb Z (cb Z (cb Z (cb Z (.skip (.cons Z (.box (ck Z (ck Z (.cons (.box (cs:=[y.d,.int .i64 0,fD r]) Z (ax Z)) .nil)))) (cb Z (.cons Z .map (cw Z (cw Z (cw Z (cw Z (cw Z .nil)))))))))))))) ?_)
  refine an (Ent.freeze 83 (e':=[(2,_),(3,_),(4,_),(7,_)]) Z (fe [2,3,4,7] Z) (cb Z (cb Z (cb Z (.cons Z (.box (.cons (.box (cs:=[x.d,.int .i64 0,.ptr [y.d,.int .i64 0,fD r] 0]) Z (ax Z)) .nil)) (.skip (cb Z (.cons Z .map (cw Z (cw Z (cw Z (cw Z (cw Z .nil))))))))))))) ?_
  refine jb Z (jn ?_)
  exact⟨⟨n,.st x:: .st y::r,w,g,cc⟩,((ah [3,4,500,503,901,902,904,905,906] (e':=[(2,_),(3,_),(4,_)]) Z Z ⟨Z,Z,Z,tv⟩ Z)).trans (Ent.to ⟨Z,Z,Z,tv⟩ Z),⟨⟨fl,_,h⟩,by simp only[aF,Fr.nodes,Tr.nodes,Trs.nodes]at hlt ⊢;omega,by show n≤N;omega,hw.le (Nat.le_succ n),hg,Nat.le_trans (Nat.add_le_add_left (cC (by simp only[aF,Fr.nodes,Tr.nodes,Trs.nodes];omega)) cc) hbd,hG⟩,Nat.lt_succ_self n⟩
  exact absurd (b9 z65) (by omega)
 | @cond i k x y r hi hs hk h7 p1 p2=>
  have hb:g.bad=false:=by simpa using z15
  have hst:=hE.st _ hk
  have htm:=lu hst
  have hx0:=eL (t:=x)
  have hy0:=eL (t:=y)
  generalize hs0:b.getD k default=s at hst htm h7 hG hlt hbd hge ⊢
  rw[i9 hb (by omega)]at hG
  have e0:aF (.st (.node s (k:Nat) [x,y])::r)=1+(x.nodes+y.nodes)+aF r:=by simp only[aF,Fr.nodes,Tr.nodes,Trs.nodes];omega
  have ex:aF (.st x::r)=x.nodes+aF r:=rfl
  have ey:aF (.st y::r)=y.nodes+aF r:=rfl
  rw[e0]at hlt hbd
  have e:=tC (m:=1+(x.nodes+y.nodes)+aF r-2)
  rw[show 1+(x.nodes+y.nodes)+aF r-2+2=1+(x.nodes+y.nodes)+aF r by omega]at e
  have e1:=cC (m:=aF (.st x::r)) (n:=1+(x.nodes+y.nodes)+aF r-2) (by omega)
  have e2:=cC (m:=aF (.st y::r)) (n:=1+(x.nodes+y.nodes)+aF r-2) (by omega)
  have hg2:GOk cc (cF w (aG s.sum w.vars).1 (aU w s.sum g)):=hg.flag.flag.flag
  have hg3:=gZ hE (la:=bD) (frm:=frm) (n:=n) (w:=w.fact (aG s.sum w.vars).1) p1 hg2
  refine ak (ae (ac (jb Z (jn (zc Z (fun z17=>?_) (fun z17=>?_))))))
  cases z17
  refine af (ae (ac (jd Z (js Z (jn (zc Z (fun z31=>?_) (fun z31=>?_)))))))
  cases z31
  refine af (ae (rk [_,_,_,_,_,_,_,_,_,_,_,_] [pn [] 0 1,pn [0] 0 1,pn [0,1] 0 1,pn [0,1,2] 0 1,pn [] 0 2,pn [4] 0 2,pn [4,5] 0 2,pn [4,5,6] 0 2,pn [] 0 1,pe [] 0,pe [0,1,2,3,8,9] 1,pe [0,1,2,3,4,5,6,7,8,9,10] 2] [9,10,11] 8 6 (.box [.d .nilp]) [_,_] [_,_] [] (ai (kf Z Z Z (kg Z Z Z)) (ai (kf Z Z Z (kg Z Z Z)) (ai (kf Z Z Z (kg Z Z Z)) (ai (kf Z Z Z (kg Z Z Z)) (ai (kf Z Z Z (kf Z Z Z (kg Z Z Z))) (ai (kf Z Z Z (kf Z Z Z (kg Z Z Z))) (ai (kf Z Z Z (kf Z Z Z (kg Z Z Z))) (ai (kf Z Z Z (kf Z Z Z (kg Z Z Z))) (ai (ai (ai (az (Eff.alloc O Z Z Z Z Z Z)) Z) (ai (az (Eff.alloc O Z Z Z Z Z Z)) Z)) (ai (ai (au (az (Eff.alloc O Z Z Z Z Z Z)) (az (Eff.alloc O Z Z Z Z Z Z))) Z) (ai (ai (au trivial (az (eS Z Z Z))) Z) (ai (ai (au trivial (az (eS Z Z Z))) Z) trivial)))))))))))) ?_))
  refine jw [7,6,31,17,16,15,2,3,4] Z (bJ ?_)
  refine ae (ac (jd Z (js Z (jn (ak (ac (jb Z (jn (zc Z (fun z65=>?_) (fun z65=>?_))))))))))
  exact absurd (bt z65) (by omega)
  refine ac (jb Z (jn (zc Z (fun z84=>?_) (fun z84=>?_))))
  exact absurd (bt z84) (by omega)
  refine ac (jb Z (jn (zc Z (fun z103=>?_) (fun z103=>?_))))
  exact absurd (bt z103) (by omega)
  refine ac (jb Z (jn (zc Z (fun z130=>?_) (fun z130=>?_))))
  exact absurd (bt z130) (by omega)
  refine ac (jb Z (jn (zc Z (fun z145=>?_) (fun z145=>?_))))
  exact absurd (bt z145) (by omega)
  refine ac (jb Z (jn (zc Z (fun z157=>?_) (fun z157=>?_))))
  exact absurd (bt z157) (by omega)
  refine ac (jb Z (jn (zc Z (fun z178=>?_) (fun z178=>?_))))
  refine ae ?_
  have hT:=Fu (c:=(bR E SS bd lo be nm)) (g:=(aU w s.sum g)) (frm:=frm) (w:=w) (t:=(aG s.sum w.vars).1) (d8:=Tr.d (.node s k [x,y])) (d9:=fD r) (Y:=(eM bD E frm n (.st x::r))) (N:=(eM bD E frm n (.st y::r))) h1 h2 (fun u g h=>cT h) (fun u g h=>cT h) eU (by omega) (by omega) (by omega) (fun _=>Il h1 h2 (ih n (by omega) ⟨fl,_,p1⟩ (by omega) (hw.fact) hg2 (by omega))) (fun _=>Ik h1 h2 (ih n (by omega) ⟨fl,_,p2⟩ (by omega) (hw.fact) hg3 (by omega)))
  refine kx [_,_,_,_,_,_,_,_,_,_,_,_,_,_,_,_] [pn [] 0 1,pn [0] 0 1,pn [0,1] 0 1,pn [] 0 1,p0,pz [4],pz [4,5],p0,pz [7],pz [7,8],pz [7,8,9],pz (rg 7 4),pe (rg 4 8) 0,pn [] 0 1,pn [] 0 1,pe (rg 0 15) 1] [12,15] [_,[(3,pB 500),(6,xB (Tr.d (.node s (k:Nat) [x,y]))),(7,xB (fD r)),(500,iB (bR E SS bd lo be nm) (aU w s.sum g) 901 902 503),(901,aM (aU w s.sum g).paths),(902,aK (aU w s.sum g).conds),(503,aX nm),(4,iW frm w 904 905 906),(904,aD w.vars),(905,aD w.facts),(906,aE w.ev)],_] [[],[901,902,904,905,906]] (ai (ka Z Z (kw Z Z)) (ai (ka Z Z (kw Z Z)) (ai (ka Z Z (kw Z Z)) (ai (ka Z Z (kw Z Z)) (ka Z Z (ka Z Z (ka Z Z (ka Z Z (ka Z Z (ka Z Z (ka Z Z (ka Z Z (ai (ai (az (b0 O [500,901,902,503,4,904,905,906] (bin:=[iB (bR E SS bd lo be nm) g 1 2 3,aM g.paths,aK g.conds,aX nm,iW frm w 5 6 7,aD w.vars,aD w.facts,aE w.ev]) Z Z Z Z (oB (c:=(bR E SS bd lo be nm)) (frm:=frm) (w:=w) (g:=g) (t:=s.sum) h1 h2 htm.1.1 hva (by have:=htm.1.2;omega)) Z Z Z Z Z (B0:=193000) Z Z Z Z Z Z)) Z) (ai (ka Z Z (kw Z Z)) (ai (ka Z Z (kw Z Z)) (ai (ai (cn O [500,901,902,503,904,905,906,3,6,7] [901,902,904,905,906] (bin:=[iB (bR E SS bd lo be nm) (aU w s.sum g) 1 2 3,aM (aU w s.sum g).paths,aK (aU w s.sum g).conds,aX nm,aD w.vars,aD w.facts,aE w.ev,pB 0,xB (Tr.d (.node s k [x,y])),xB (fD r)]) Z Z Z Z (hT) Z Z Z Z Z (B0:=196000) Z Z Z Z Z Z Z) Z) trivial)))))))))))))))) ?_
  refine jw [178,179,157,158,145,146,130,131,103,104,84,85,65,66,64,7,6,31,17,16,15,2,3,4] Z (bJ ?_)
  refine dJ ?_
  rw[←hG]
  refine⟨.inl Z,_,(aa 196010 510 Z Z).trans (aa 196011 511 Z Z),_,Z,Z,Z⟩
  exact absurd (b9 z178) (by omega)
 | @loop i k x r hi hs hk h8=>
  have hb:g.bad=false:=by simpa using z15
  have hnum:=hP.num _ hk h8
  have hf:=iN (hE.st _ hk)
  have hEn:=hE.num _ hk h8
  generalize hs0:b.getD k default=s at h8 hf hG hlt hbd hge ⊢
  rw[i7 hb,hEn]at hG
  refine ak (ae (ac (jb Z (jn (zc Z (fun z17=>?_) (fun z17=>?_))))))
  cases z17
  refine af (ae (ac (jd Z (js Z (jn (zc Z (fun z31=>?_) (fun z31=>?_)))))))
  cases z31
  refine af (ae (rk [_,_,_,_,_,_,_,_,_,_,_,_] [pn [] 0 1,pn [0] 0 1,pn [0,1] 0 1,pn [0,1,2] 0 1,pn [] 0 2,pn [4] 0 2,pn [4,5] 0 2,pn [4,5,6] 0 2,pn [] 0 1,pe [] 0,pe [0,1,2,3,8,9] 1,pe [0,1,2,3,4,5,6,7,8,9,10] 2] [9,10,11] 8 6 (.box [.d .nilp]) [_,_] [_,_] [] (ai (kf Z Z Z (kg Z Z Z)) (ai (kf Z Z Z (kg Z Z Z)) (ai (kf Z Z Z (kg Z Z Z)) (ai (kf Z Z Z (kg Z Z Z)) (ai (kf Z Z Z (kf Z Z Z (kg Z Z Z))) (ai (kf Z Z Z (kf Z Z Z (kg Z Z Z))) (ai (kf Z Z Z (kf Z Z Z (kg Z Z Z))) (ai (kf Z Z Z (kf Z Z Z (kg Z Z Z))) (ai (ai (ai (az (Eff.alloc O Z Z Z Z Z Z)) Z) (ai (az (Eff.alloc O Z Z Z Z Z Z)) Z)) (ai (ai (au (az (Eff.alloc O Z Z Z Z Z Z)) (az (Eff.alloc O Z Z Z Z Z Z))) Z) (ai (ai (au trivial (az (eS Z Z Z))) Z) (ai (ai (au trivial (az (eS Z Z Z))) Z) trivial)))))))))))) ?_))
  refine jw [7,6,31,17,16,15,2,3,4] Z (bJ ?_)
  refine ae (ac (jd Z (js Z (jn (ak (ac (jb Z (jn (zc Z (fun z65=>?_) (fun z65=>?_))))))))))
  exact absurd (bt z65) (by omega)
  refine ac (jb Z (jn (zc Z (fun z84=>?_) (fun z84=>?_))))
  exact absurd (bt z84) (by omega)
  refine ac (jb Z (jn (zc Z (fun z103=>?_) (fun z103=>?_))))
  exact absurd (bt z103) (by omega)
  refine ac (jb Z (jn (zc Z (fun z130=>?_) (fun z130=>?_))))
  exact absurd (bt z130) (by omega)
  refine ac (jb Z (jn (zc Z (fun z145=>?_) (fun z145=>?_))))
  exact absurd (bt z145) (by omega)
  refine ac (jb Z (jn (zc Z (fun z157=>?_) (fun z157=>?_))))
  exact absurd (bt z157) (by omega)
  refine ac (jb Z (jn (zc Z (fun z178=>?_) (fun z178=>?_))))
  exact absurd (bt z178) (by omega)
  refine ac (jb Z (jn (zc Z (fun z196=>?_) (fun z196=>?_))))
  refine ae (fJ [_,_,_,_,_,_,_,_,_,_] [p0,pz [0],pz [0,1],pz [0,1,2],p0,pz [4],pz [4,5],pz [4,5,6],pz (rg 0 8),pz (rg 0 9)] [] [_] (k4 Z (k4 Z (ai ((vk (kt:=2) (et:=2) (q:=.i64) (z:=.int .i64 0) (es:=nm) (k:=(k:Nat)) O Z Z Z GL uK zK Z Z Z Z).cast (v':=eI (bb b k:Nat)) (by rw[hnum];rfl)) (kc Z trivial)))) ?_)
  refine jw [9,196,197,178,179,157,158,145,146,130,131,103,104,84,85,65,66,64,7,6,31,17,16,15,2,3,4] Z (bJ ?_)
  refine ae (kx [_,_,_,_,_,_,_,_,_,_] [p0,pz [0],pz [0,1],p0,p0,pz [4],pz [4,5],pz [4,5,6],pz (rg 4 4),pe (rg 0 9) 0] [9] [_,_] [[901,902]] (ka Z Z (ka Z Z (ka Z Z (ka Z Z (ka Z Z (ka Z Z (ka Z Z (ka Z Z (ka Z Z (ai (ai (cn O [500,901,902,503,4,904,905,906] [901,902] (bin:=[iB (bR E SS bd lo be nm) g 1 2 3,aM g.paths,aK g.conds,aX nm,iW frm w 5 6 7,aD w.vars,aD w.facts,aE w.ev]) Z Z Z Z (zP (c:=(bR E SS bd lo be nm)) (g:=g) (frm:=frm) (w:=w) (to:=(bb b k:Nat)) (fs:=s.facts) h1 h2 hw.ctx hw.vars hf.1 (by have:=hf.2;omega) (by omega)) Z Z Z Z Z (B0:=217000) Z Z Z Z Z Z Z) Z) trivial)))))))))) ?_)
  refine jw [196,197,178,179,157,158,145,146,130,131,103,104,84,85,65,66,64,7,6,31,17,16,15,2,3,4] Z (bJ ?_)
  refine dJ ?_
  rw[←hG]
  refine⟨.inl Z,_,(aa 217009 510 Z Z).trans (aa 217008 511 Z Z),_,Z,Z,Z⟩
  exact absurd (b9 z196) (by omega)
 refine aR ?_
 show _∧_
 have hb:g.bad=true:=by simpa using z15
 rw[←hG,cT hb]
 refine⟨.inr Z,_,(aa 901 510 Z Z).trans (aa 902 511 Z Z),_,Z,Z,Z⟩
theorem zQ{L:Nat}(h1:4096≤L)(h2:L≤1073741824){E:Pe}{b:List Sm}{SS:List (List Tm)}{bd lo be:D}{nm:List (Int×D)}{frm:Int}(hE:EOk E b)(hbl:b.length≤1000)(hP:PcOk E b SS nm)(n:Nat): ∀{r:List Fr} {w:Pw} {g:Gs} {c:Nat},(∃fl i,Pl b fl i r)→aF r<n→WOk n w→GOk c g→c+rn (aF r)≤L→pc L (bR E SS bd lo be nm) frm w g (fD r) (eM bD E frm n r w g):=by
 induction n using Nat.strongRecOn with
 | _ n ih=>
  intro r w g c hp hn hw hg hL
  exact Fw h1 h2 hE hbl hP (N:=n) (r0:=r) (w0:=w) (g0:=g) (c0:=c) (fun m hm=>ih m hm) ⟨hp,hn,cQ _,hw,hg,hL,Z⟩
structure Fd where
  lp:List Lp
  nm:List (Int×D)
def iE:Tr→List Fr→Fd→Fd
  | .node s a [x,y],r,c=>if s.kind=1 then iE y r (iE x (.st y::r) c)else iE y r (iE x r c)
  | .node s a [x],r,c=>iE x [.lp c.lp.length] ⟨c.lp++[⟨s,a.toNat,x,r⟩],gn c.nm a (.int .i64 (c.lp.length:Nat))⟩
  | _,_,c=>c
abbrev lm(q:Lp):D:=Tr.d (.node q.s (q.a:Nat) [q.x])
abbrev zB(post bd:D)(c:Fd)(i j k m:Nat):B:=.box [.d post,.rs i 0 (c.lp.length+1),.d .nils,.d .nils,.d (.bool false),.d bd,.rs j 0 c.lp.length,.rs k 0 c.lp.length,.mp m]
abbrev y6(pre:List Tm)(c:Fd):B:=.row false 1 ((pre::c.lp.map (·.s.facts)).map fun f=>[fd f])
abbrev y8(c:Fd):B:=.row false 1 (c.lp.map fun q=>[lm q])
abbrev za(c:Fd):B:=.row false 1 ((c.lp.map (·.r)).map fun r=>[fD r])
abbrev zH(post bd:D)(pre:List Tm)(c:Fd):List (Nat×B):=[(0,zB post bd c 1 2 3 4),(1,y6 pre c),(2,y8 c),(3,za c),(4,aX c.nm)]
abbrev zO(post bd:D)(pre:List Tm)(c:Fd):List (Nat×B):=[(0,zB post bd c 10 11 12 4),(4,aX c.nm),(10,y6 pre c),(11,y8 c),(12,za c)]
abbrev pS(L:Nat)(post bd:D)(pre:List Tm)(t r:D)(c c':Fd):Prop:=MC Tryz.prog L 69 [.c (.pt 0 0 0),.c (.d t),.c (.d r)] (zH post bd pre c) (aO (.tup []) (zO post bd pre c'))
theorem Dv{L:Nat}{post bd:D}{pre:List Tm}{t d1 d2 d3:D}{c c':Fd}(h:pS L post bd pre t (.ptr [d1,d2,d3] 0) c c'):MC Tryz.prog L 69 [.c (.pt 0 0 0),.c (.d t),.c (.pt 5 0 0)] (zH post bd pre c++[(5,BO d1 d2 d3)]) (aO (.tup []) (zO post bd pre c')):=
  MC.freeze 5 Z (ck Z (ck Z (.cons (.c (.box Z (ax Z))) .nil))) (.cons Z (.box (ck Z (ck Z (ck Z (ck Z (ck Z (ck Z (ck Z (ck Z (ck Z .nil)))))))))) (cw Z (cw Z (cw Z (.cons Z .map (.skip .nil)))))) Z h
theorem wE{L:Nat}(h1:4096≤L)(h2:L≤1073741824){post bd:D}{pre:List Tm}{s:Sm}{r:List Fr}{c c1 c2:Fd}{a:Int}(hk:s.kind≠1∧s.kind≠7∧s.kind≠8):pS L post bd pre (Tr.d (.node s a [])) (fD r) c c:=by
 refine MC.shift 500 Z (MC.keep [500,504,510,511,512] (bs:=[zB post bd c 510 511 512 504,aX c.nm,y6 pre c,y8 c,za c]) Z Z (jH 124 [500,501,502,503,504] h1 h2 Tryz.func69 Z fun O hF=>?_))
 refine bJ ?_
 refine ac (jd Z (js Z (jn (ak (ac (jb Z (jn (zc Z (fun z12=>?_) (fun z12=>?_)))))))))
 exact absurd (bt z12) (by omega)
 refine ac (jb Z (jn (zc Z (fun z40=>?_) (fun z40=>?_))))
 exact absurd (bt z40) (by omega)
 refine ac (jb Z (jn (zc Z (fun z60=>?_) (fun z60=>?_))))
 exact absurd (bt z60) (by omega)
 refine af ?_
 show _∧_
 refine⟨.inr Z,_,((aa 501 510 Z Z).trans (aa 502 511 Z Z)).trans (aa 503 512 Z Z),_,Z,Z,Z⟩
theorem yL{L:Nat}(h1:4096≤L)(h2:L≤1073741824){post bd:D}{pre:List Tm}{s:Sm}{r:List Fr}{c c1 c2:Fd}{a:Int}{x y:Tr}(hk:s.kind=1)(ih1:pS L post bd pre x.d (fD (.st y::r)) c c1)(ih2:pS L post bd pre y.d (fD r) c1 c2):pS L post bd pre (Tr.d (.node s a [x,y])) (fD r) c c2:=by
 refine MC.shift 500 Z (MC.keep [500,504,510,511,512] (bs:=[zB post bd c2 510 511 512 504,aX c2.nm,y6 pre c2,y8 c2,za c2]) Z Z (jH 124 [500,501,502,503,504] h1 h2 Tryz.func69 Z fun O hF=>?_))
 refine bJ ?_
 refine ac (jd Z (js Z (jn (ak (ac (jb Z (jn (zc Z (fun z12=>?_) (fun z12=>?_)))))))))
 refine ae (jw [13,11,0,1,2] Z (kx [_,_,_,_,_,_,_,_,_,_,_,_,_,_,_,_,_] [pn [] 0 1,pn [] 0 1,pn [1] 0 1,pn [1,2] 0 1,pn [1,2,3] 0 1,pn (rg 1 4) 0 1,pn (rg 1 5) 0 1,p0,pz [7],pz [7,8],pz [7,8,9],pz (rg 7 4),pz (rg 7 5),p0,pz (rg 7 7),pe (rg 7 8) 0,pe (rg 0 16) 1] [15,16] [_,_,_] [[],[501,502,503,29]] (ai (ka Z Z (kw Z Z)) (ai (ka Z Z (kw Z Z)) (ai (ka Z Z (kw Z Z)) (ai (ka Z Z (kw Z Z)) (ai (ka Z Z (kw Z Z)) (ai (ai (ai (bw O Z Z Z Z Z Z Z Z (by simp[Trs.d]) Z) Z) (ai (bw O Z Z Z Z Z Z Z Z (by simp[Trs.d]) Z) Z)) (ai (ka Z Z (kw Z Z)) (ka Z Z (ka Z Z (ka Z Z (ka Z Z (ai (ai (bw O Z Z Z Z Z Z Z Z (by simp[Trs.d]) Z) Z) (ka Z Z (ka Z Z (ka Z Z (ai (ai (az (Eff.box O Z Z Z Z Z Z Z Z)) Z) (ai (ai (cn O [500,501,502,503,504,29] [501,502,503,29] (bin:=[zB post bd c 1 2 3 4,y6 pre c,y8 c,za c,aX c.nm,BO y.d (.int .i64 0) (fD r)]) Z Z Z Z (Dv ih1) Z Z Z Z Z (B0:=31000) Z Z Z Z Z Z Z) Z) trivial))))))))))))))))) ?_))
 refine jw [13,11,0,1,2] Z (bJ ?_)
 refine ag (jd Z (js Z (st (bw O Z Z Z Z Z Z Z Z (by simp[Trs.d]) Z) Z (jb Z (ao O [500,31010,31011,31012,504] (bin:=[zB post bd c1 1 2 3 4,y6 pre c1,y8 c1,za c1,aX c1.nm]) Z Z Z Z (ih2) Z Z Z Z Z Z (B0:=40000) Z Z (am ?_))))))
 refine jn ?_
 show _∧_
 refine⟨.inr Z,_,((aa 40010 510 Z Z).trans (aa 40011 511 Z Z)).trans (aa 40012 512 Z Z),_,Z,Z,Z⟩
 exact absurd (b9 z12) (by omega)
theorem Bx{L:Nat}(h1:4096≤L)(h2:L≤1073741824){post bd:D}{pre:List Tm}{s:Sm}{r:List Fr}{c c1 c2:Fd}{a:Int}{x y:Tr}(hk:s.kind=7)(ih1:pS L post bd pre x.d (fD r) c c1)(ih2:pS L post bd pre y.d (fD r) c1 c2):pS L post bd pre (Tr.d (.node s a [x,y])) (fD r) c c2:=by
 refine MC.shift 500 Z (MC.keep [500,504,510,511,512] (bs:=[zB post bd c2 510 511 512 504,aX c2.nm,y6 pre c2,y8 c2,za c2]) Z Z (jH 124 [500,501,502,503,504] h1 h2 Tryz.func69 Z fun O hF=>?_))
 refine bJ ?_
 refine ac (jd Z (js Z (jn (ak (ac (jb Z (jn (zc Z (fun z12=>?_) (fun z12=>?_)))))))))
 exact absurd (bt z12) (by omega)
 refine ac (jb Z (jn (zc Z (fun z40=>?_) (fun z40=>?_))))
 refine ac (jd Z (js Z (st (bw O Z Z Z Z Z Z Z Z (by simp[Trs.d]) Z) Z (jb Z (ao O [500,501,502,503,504] (bin:=[zB post bd c 1 2 3 4,y6 pre c,y8 c,za c,aX c.nm]) Z Z Z Z (ih1) Z Z Z Z Z Z (B0:=51000) Z Z (am ?_))))))
 refine jn (ag (jd Z (js Z (st (bw O Z Z Z Z Z Z Z Z (by simp[Trs.d]) Z) Z (jb Z (ao O [500,51010,51011,51012,504] (bin:=[zB post bd c1 1 2 3 4,y6 pre c1,y8 c1,za c1,aX c1.nm]) Z Z Z Z (ih2) Z Z Z Z Z Z (B0:=60000) Z Z (am ?_)))))))
 refine jn ?_
 show _∧_
 refine⟨.inr Z,_,((aa 60010 510 Z Z).trans (aa 60011 511 Z Z)).trans (aa 60012 512 Z Z),_,Z,Z,Z⟩
 exact absurd (b9 z40) (by omega)
theorem wD{L:Nat}(h1:4096≤L)(h2:L≤1073741824){post bd:D}{pre:List Tm}{s:Sm}{r:List Fr}{c c1 c2:Fd}{k:Nat}{x:Tr}(hk:s.kind=8)(hl:c.lp.length≤1000)(ih:pS L post bd pre x.d (fD [.lp c.lp.length]) (⟨c.lp++[⟨s,k,x,r⟩],gn c.nm (k:Nat) (.int .i64 (c.lp.length:Nat))⟩:Fd) c2):pS L post bd pre (Tr.d (.node s (k:Nat) [x])) (fD r) c c2:=by
 refine MC.shift 500 Z (MC.keep [500,504,510,511,512] (bs:=[zB post bd c2 510 511 512 504,aX c2.nm,y6 pre c2,y8 c2,za c2]) Z Z (jH 124 [500,501,502,503,504] h1 h2 Tryz.func69 Z fun O hF=>?_))
 refine bJ ?_
 refine ac (jd Z (js Z (jn (ak (ac (jb Z (jn (zc Z (fun z12=>?_) (fun z12=>?_)))))))))
 exact absurd (bt z12) (by omega)
 refine ac (jb Z (jn (zc Z (fun z40=>?_) (fun z40=>?_))))
 exact absurd (bt z40) (by omega)
 refine ac (jb Z (jn (zc Z (fun z60=>?_) (fun z60=>?_))))
 refine ac (jd Z (db Z Z (lo Z (yg (n:=c.lp.length) h1 h2) 68000 Z (js Z (jn (ae (fJ [_,_,_,_,_,_,_,_,_,_] [p0,pz [0],pz [0,1],pz [0,1,2],p0,pz [4],pz [4,5],pz [4,5,6],p0,pe (rg 0 9) 0] [9] [_,_] (k4 Z (k4 Z (kc Z (ai (Eff.mapUpdate (kt:=2) (et:=2) (q:=.i64) (es:=c.nm) (k:=(k:Nat)) (v:=.int .i64 (c.lp.length:Nat)) O Z Z Z Z GL uK Z Z Z Z Z Z) trivial)))) ?_)))))))
 refine jw [6,13,11,0,1,2] Z (bJ ?_)
 refine ac (jd Z (jb Z (hp (aZ O Z Z Z Z Z Z Z Z Z Z Z) Z (am ?_))))
 refine hp (ko (own:=false) (xs:=c.lp.map fun q=>[lm q]) (ys:=[[lm (⟨s,k,x,r⟩:Lp)]]) (zs:=(c.lp++[(⟨s,k,x,r⟩:Lp)]).map fun q=>[lm q]) (n:=(c.lp++[(⟨s,k,x,r⟩:Lp)]).length) O Z (.row Z (bA _).symm) (.whole Z Z (.inr ⟨Z,Z⟩)) (by simp) Z (by simp;omega) (by simp;omega) (by simp) (by simp)) Z (am ?_)
 refine am ?_
 refine jb Z (jo Z (am ?_))
 refine aN (jd Z (jb Z (hp (aZ O Z Z Z Z Z Z Z Z Z Z Z) Z (am ?_))))
 refine hp (ko (own:=false) (xs:=(c.lp.map (·.r)).map fun r=>[fD r]) (ys:=[[fD r]]) (zs:=((c.lp++[(⟨s,k,x,r⟩:Lp)]).map (·.r)).map fun r=>[fD r]) (n:=(c.lp++[(⟨s,k,x,r⟩:Lp)]).length) O Z (.row Z (by simp)) (.whole Z Z (.inr ⟨Z,Z⟩)) (by simp) Z (by simp;omega) (by simp;omega) (by simp) (by simp)) Z (am ?_)
 refine am ?_
 refine jb Z (jo Z (am ?_))
 refine jn (ae (kx [_,_,_,_,_,_,_,_,_,_,_,_,_,_,_,_,_] [pn [] 0 2,pn [] 0 1,pn [1] 0 1,pn [1,2] 0 1,pn [1,2,3] 0 1,pn (rg 1 4) 0 1,p0,pz [6],pz [6,7],pz [6,7,8],pz (rg 6 4),pe (rg 6 5) 0,pe (rg 1 11) 1,pn (rg 0 13) 2 2,pn (rg 0 14) 2 2,pn (rg 0 15) 2 2,pe (rg 0 16) 2] [11,12,16] [_,_,_,_] [[],[501],[]] (ai (ka Z Z (ka Z Z (kw Z Z))) (ai (ka Z Z (kw Z Z)) (ai (ka Z Z (kw Z Z)) (ai (ka Z Z (kw Z Z)) (ai (ka Z Z (kw Z Z)) (ai (ka Z Z (kw Z Z)) (ka Z Z (ka Z Z (ka Z Z (ka Z Z (ka Z Z (ai (ai (az (cD O Z Z Z Z Z Z Z Z Z Z Z Z Z Z)) Z) (ai (ai (bW (own:=false) (xs:=(pre::c.lp.map (·.s.facts)).map fun f=>[fd f]) (ys:=[[fd s.facts]]) (zs:=(pre::(c.lp++[(⟨s,k,x,r⟩:Lp)]).map (·.s.facts)).map fun f=>[fd f]) (n:=(c.lp++[(⟨s,k,x,r⟩:Lp)]).length+1) O Z Z Z Z Z Z Z Z Z Z Z Z Z Z Z Z (.row Z (by simp)) (.whole Z Z (.inr ⟨Z,Z⟩)) (by simp) Z (by simp;omega) (by simp;omega) (by simp) (by simp) Z) Z) (ka Z Z (ka Z Z (ka Z Z (ai (ai (az (eS Z Z Z)) Z) trivial))))))))))))))))) ?_))
 refine jw [6,13,11,0,1,2] Z (bJ ?_)
 refine ag (jd Z (js Z (st (bw O Z Z Z Z Z Z Z Z (by simp[Trs.d]) Z) Z (jc Z (jx Z (am ?_))))))
 refine ao O [500,109,84,94,504,122] (bin:=[zB post bd (⟨c.lp++[⟨s,k,x,r⟩],gn c.nm (k:Nat) (.int .i64 (c.lp.length:Nat))⟩:Fd) 1 2 3 4,y6 pre (⟨c.lp++[⟨s,k,x,r⟩],gn c.nm (k:Nat) (.int .i64 (c.lp.length:Nat))⟩:Fd),y8 (⟨c.lp++[⟨s,k,x,r⟩],gn c.nm (k:Nat) (.int .i64 (c.lp.length:Nat))⟩:Fd),za (⟨c.lp++[⟨s,k,x,r⟩],gn c.nm (k:Nat) (.int .i64 (c.lp.length:Nat))⟩:Fd),aX (⟨c.lp++[⟨s,k,x,r⟩],gn c.nm (k:Nat) (.int .i64 (c.lp.length:Nat))⟩:Fd).nm,BO .nilp (.int .i64 (c.lp.length:Nat)) .nilp]) Z Z Z Z (Dv ih) Z Z Z Z Z Z (B0:=124000) Z Z (am ?_)
 refine jn ?_
 show _∧_
 refine⟨.inr Z,_,((aa 124010 510 Z Z).trans (aa 124011 511 Z Z)).trans (aa 124012 512 Z Z),_,Z,Z,Z⟩
 exact absurd (b9 z60) (by omega)
theorem rE{L:Nat}(h1:4096≤L)(h2:L≤1073741824){b:List Sm}{post bd:D}{pre:List Tm}: ∀{t:Tr} {k k':Nat},ci b k=some (t,k')→∀{r:List Fr} {c:Fd},c.lp.length+t.nodes≤1000→pS L post bd pre t.d (fD r) c (iE t r c)∧(iE t r c).lp.length≤c.lp.length+t.nodes
 | .node s a [x,y],k,k',h,r,c,hc=>by
  obtain⟨e1,rfl,e3,e4,e5⟩:=cd h
  obtain rfl:=cY h
  obtain⟨k1,i1,i2⟩:=bZ e4
  obtain⟨k2,i3,i4⟩:=bZ i2
  have hn:Tr.nodes (.node (b.getD k default) (k:Nat) [x,y])=1+(x.nodes+y.nodes):=by simp[Tr.nodes,Trs.nodes]
  rw[hn]at hc ⊢
  by_cases hk:(b.getD k default).kind=1
  rw[iE,if_pos hk]
  obtain⟨a1,a2⟩:=rE h1 h2 i1 (r:=.st y::r) (c:=c) (by omega) (post:=post) (bd:=bd) (pre:=pre)
  obtain⟨b1,b2⟩:=rE h1 h2 i3 (r:=r) (c:=iE x (.st y::r) c) (by omega) (post:=post) (bd:=bd) (pre:=pre)
  exact⟨yL h1 h2 hk a1 b1,by omega⟩
  rw[iE,if_neg hk]
  obtain⟨a1,a2⟩:=rE h1 h2 i1 (r:=r) (c:=c) (by omega) (post:=post) (bd:=bd) (pre:=pre)
  obtain⟨b1,b2⟩:=rE h1 h2 i3 (r:=r) (c:=iE x r c) (by omega) (post:=post) (bd:=bd) (pre:=pre)
  have hk7:(b.getD k default).kind=7:=by
   have h3:bl (b.getD k default).kind=2:=e5.symm
   unfold bl at h3
   split at h3
   omega
   split at h3
   assumption
   split at h3<;>omega
  exact⟨Bx h1 h2 hk7 a1 b1,by omega⟩
 | .node s a [x],k,k',h,r,c,hc=>by
  obtain⟨e1,rfl,e3,e4,e5⟩:=cd h
  obtain rfl:=cY h
  obtain⟨k1,i1,i2⟩:=bZ e4
  have hk8:(b.getD k default).kind=8:=kX e5.symm
  have hn:Tr.nodes (.node (b.getD k default) (k:Nat) [x])=1+x.nodes:=by simp[Tr.nodes,Trs.nodes]
  rw[hn]at hc ⊢
  rw[iE,Int.toNat_natCast]
  obtain⟨a1,a2⟩:=rE h1 h2 i1 (r:=[.lp c.lp.length]) (c:=⟨c.lp++[⟨b.getD k default,k,x,r⟩],gn c.nm (k:Nat) (.int .i64 (c.lp.length:Nat))⟩) (by simp only[cp,du];omega) (post:=post) (bd:=bd) (pre:=pre)
  refine⟨wD (c1:=c) h1 h2 hk8 (by omega) a1,?_⟩
  simp only[cp,du]at a2;omega
 | .node s a [],k,k',h,r,c,hc=>by
  obtain⟨e1,rfl,e3,e4,e5⟩:=cd h
  obtain rfl:=cY h
  have hne:=iR (e5.symm:bl (b.getD k default).kind=0)
  have e:iE (.node (b.getD k default) (k:Nat) []) r c=c:=by rw[iE]<;>simp
  rw[e]
  exact⟨wE (c1:=c) (c2:=c) h1 h2 ⟨hne.1,hne.2.1,hne.2.2⟩,Nat.le_add_right _ _⟩
 | .node s a (x::y::z::ks),k,k',h,r,c,hc=>by
  obtain⟨e1,rfl,e3,e4,e5⟩:=cd h
  have h2:=(cN (b.getD k default).kind).2
  simp only[dW]at e5
  omega
theorem uH{es:List (Int×D)}{k j:Int}{v:D}:mE (gn es k v) j=if j=k then some v else mE es j:=by
 induction es with
 | nil=>simp only[gn,mE]
 | cons e es ih=>
  obtain⟨i,y⟩:=e
  by_cases hk:k=i
  subst hk
  simp only[gn,if_true,mE]
  by_cases h:j=k<;>simp[h]
  simp only[gn,if_neg hk,mE,ih]
  by_cases h:j=i
  subst h;rw[if_pos rfl,if_pos rfl,if_neg (Ne.symm hk)]
  rw[if_neg h,if_neg h]
structure FdOk(b:List Sm)(k:Nat)(c:Fd):Prop where
  len:c.lp.length=bb b k
  at_: ∀q∈c.lp,q.a<k
  nm: ∀q∈c.lp,mE c.nm (q.a:Nat)=some (.int .i64 (bb b q.a:Nat))
theorem FdOk.next{b:List Sm}{k:Nat}{c:Fd}(h:FdOk b k c)(h8: ¬(b.getD k default).kind=8):FdOk b (k+1) c:=
  ⟨by rw[h.len,bb,if_neg h8];rfl,fun q hq=>Nat.lt_succ_of_lt (h.at_ q hq),h.nm⟩
theorem nS {b:List Sm}: ∀{t:Tr} {k k':Nat},ci b k=some (t,k')→∀{r:List Fr} {c:Fd},FdOk b k c→FdOk b k' (iE t r c)∧(iE t r c).lp=c.lp++aY b t r
  | .node s a [x,y],k,k',h,r,c,hc=>by
    obtain⟨e1,rfl,e3,e4,e5⟩:=cd h
    obtain rfl:=cY h
    obtain⟨k1,i1,i2⟩:=bZ e4
    obtain⟨k2,i3,i4⟩:=bZ i2
    obtain rfl:=eA i4
    have h8: ¬(b.getD k default).kind=8:=by
      intro h8;rw[h8]at e5;revert e5;simp only[dW,List.length_nil];decide
    by_cases hk:(b.getD k default).kind=1
    · rw[iE,if_pos hk,ew,if_pos hk]
      obtain⟨a1,a2⟩:=nS i1 (r:=.st y::r) (hc.next h8)
      obtain⟨b1,b2⟩:=nS i3 (r:=r) a1
      exact⟨b1,by rw[b2,a2,gm]⟩
    · rw[iE,if_neg hk,ew,if_neg hk]
      obtain⟨a1,a2⟩:=nS i1 (r:=r) (hc.next h8)
      obtain⟨b1,b2⟩:=nS i3 (r:=r) a1
      exact⟨b1,by rw[b2,a2,gm]⟩
  | .node s a [x],k,k',h,r,c,hc=>by
    obtain⟨e1,rfl,e3,e4,e5⟩:=cd h
    obtain rfl:=cY h
    obtain⟨k1,i1,i2⟩:=bZ e4
    obtain rfl:=eA i2
    have hk8:(b.getD k default).kind=8:=kX e5.symm
    rw[iE,jJ,Int.toNat_natCast]
    have hlen:=hc.len
    have hn : FdOk b (k+1) ⟨c.lp++[⟨b.getD k default,k,x,r⟩],gn c.nm (k:Nat) (.int .i64 (c.lp.length:Nat))⟩:=by
      refine⟨?_,fun q hq=>?_,fun q hq=>?_⟩
      · rw[cp,du,hlen,bb,if_pos hk8]
      · rcases List.mem_append.1 hq with hq|hq
        · exact Nat.lt_succ_of_lt (hc.at_ q hq)
        · rw[List.mem_singleton.1 hq];exact Nat.lt_succ_self k
      · rcases List.mem_append.1 hq with hq|hq
        · have:=hc.at_ q hq
          rw[uH,if_neg (by omega)];exact hc.nm q hq
        · rw[List.mem_singleton.1 hq,uH,if_pos Z,hlen]
    obtain⟨a1,a2⟩:=nS i1 (r:=[.lp c.lp.length]) hn
    refine⟨a1,?_⟩
    rw[a2,gm,hlen];rfl
  | .node s a [],k,k',h,r,c,hc=>by
    obtain⟨e1,rfl,e3,e4,e5⟩:=cd h
    obtain rfl:=cY h
    obtain rfl:=eA e4
    have hne:=iR (e5.symm:bl (b.getD k default).kind=0)
    have e:iE (.node (b.getD k default) (k:Nat) []) r c=c:=by rw[iE]<;>simp
    rw[e,jK,List.append_nil]
    exact⟨hc.next hne.2.2,Z⟩
  | .node s a (x::y::z::ks),k,k',h,r,c,hc=>by
    obtain⟨e1,rfl,e3,e4,e5⟩:=cd h
    have h2:=(cN (b.getD k default).kind).2
    simp only[dW]at e5
    omega
theorem Bb{b:List Sm}{i j:Nat}(hi:(b.getD i default).kind=8)(hj:(b.getD j default).kind=8)(h:bb b i=bb b j):i=j:=by
 have key: ∀{i j:Nat},(b.getD i default).kind=8→bb b i=bb b j→¬i<j:=fun{i j} hi h hlt=>by
  have h1:=gI (b:=b) (show i+1≤j by omega)
  have h2:bb b (i+1)=bb b i+1:=by rw[bb,if_pos hi]
  omega
 have h1:=key hi h
 have h2:=key hj h.symm
 omega
def kn(t:Tr):Fd:=iE t [] ⟨[],[]⟩
theorem oA{b:List Sm}{t:Tr}(hT:ci b 0=some (t,b.length)):FdOk b b.length (kn t)∧(kn t).lp=aY b t []:=by
 have h:=nS hT (r:=[]) (c:=⟨[],[]⟩) ⟨rfl,fun q hq=>(by cases hq),fun q hq=>(by cases hq)⟩
 exact⟨h.1,h.2.trans (List.nil_append _)⟩
theorem Dn{b:List Sm}{t:Tr}(hT:ci b 0=some (t,b.length)){k:Nat}(hk:k<b.length)(h8:(b.getD k default).kind=8):bb b k<(aY b t []).length∧((aY b t []).getD (bb b k) default).a=k∧((aY b t []).getD (bb b k) default).s=b.getD k default∧(aY b t []).getD (bb b k) default∈aY b t []:=by
 have h1:bb b (k+1)=bb b k+1:=by rw[bb,if_pos h8]
 have h2:=gI (b:=b) (show k+1≤b.length by omega)
 obtain⟨hm,ha⟩:=mO hT (n:=bb b k) (by omega)
 have hat:=(wY hT (r:=[])).at_ _ hm
 have he:=Bb hat.2.2.1 h8 ha
 have hl:=(oA hT).1.len
 rw[(oA hT).2]at hl
 exact⟨by omega,he,by rw[hat.2.2.2,he],hm⟩
theorem HK{b:List Sm}{t:Tr}{pre post:List Tm}(hT:ci b 0=some (t,b.length)):PcOk (tS b post) b (pre::(kn t).lp.map (·.s.facts)) (kn t).nm:=by
 refine⟨fun k hk h8=>?_,fun k hk h8=>?_⟩
 obtain⟨h1,h2,h3,h4⟩:=Dn hT hk h8
 rw[(oA hT).2]
 refine⟨by simp;exact h1,?_⟩
 rw[List.getD_cons_succ,←h3]
 simp[List.getD_eq_getElem?_getD,h1]
 obtain⟨h1,h2,h3,h4⟩:=Dn hT hk h8
 have:=(oA hT).1.nm _ (by rw[(oA hT).2];exact h4)
 rw[h2]at this;exact this
theorem HZ{z:List Tm}(hz:z=[]):MQ h1 h2 110 [bM z] [] (Rows (.c (.rs 0 0 0)) [aD []]):=by
 refine cq (jB 8 h1 h2 Tryz.func110 Z fun O hF=>?_)
 subst hz
 refine ac (js Z (jn (ae (ac (js Z (wU O Z Z Z Z Z Z Z Z Z Z (fun b=>?_)))))))
 refine jn (zc Z (fun _=>?_) (fun _=>?_))
 refine ac (js Z (jr ?_))
 refine⟨.inl Z,_,(cx 2 900 2 false Z Z).trans (Ent.to (e':=[(2,_)]) ⟨Z,tv⟩ Z),_,Z,[900],by decide,Z,Z,Z⟩
 refine af (ac (hp (bz O Z Z Z) Z (js Z (an (c9 5 Z) (hp (ko (own:=false) (zs:=[]) (n:=0) O Z (.row Z Z) (.slc (.inl Z)) (by simp) Z (by simp) (by simp) Z Z) Z (js Z (jr ?_)))))))
 refine⟨.inl Z,_,bK,_,Z,[7],by decide,Z,Z,Z⟩
theorem H3{L:Nat}(h1:4096≤L)(h2:L≤1073741824){ts:List Tm}(hl:ts.length≤1000):MC Tryz.prog L 110 [bM ts] [] (Rows (.c (.rs 0 0 ts.length)) [aD ts]):=by
 cases ts with
 | nil=>exact HZ h1 h2 Z
 | cons c r=>exact Ec h1 h2 hl
variable{SS:List (List Tm)}{bd:D}{nm:List (Int×D)}
theorem Ir{lo be:D}{f:List Tm}(hn:n<SS.length)(hsl:SS.length≤1000)(hf:SS.getD n default=f)(hl:f.length≤1000):MQ h1 h2 71 [.c (.pt 0 0 0),eI ((n:Int)-1)] [(0,iB (bR E SS bd lo be nm) g 1 2 3),(1,aM g.paths),(2,aK g.conds),(3,aX nm)] (aO (wA ((n:Int)-1) (w0 f) 4 5 6) [(0,iB (bR E SS bd lo be nm) g 1 2 3),(1,aM g.paths),(2,aK g.conds),(3,aX nm),(4,aD (mA 4)),(5,aD f),(6,aE [])]):=by
 refine MC.shift 500 Z (MC.keep [500,501,502,503,504,505,506] (bs:=[iB (bR E SS bd lo be nm) g 501 502 503,aM g.paths,aK g.conds,aX nm,aD (mA 4),aD f,aE []]) Z Z (jH 30 [500,501,502,503] h1 h2 Tryz.func71 Z fun O hF=>?_))
 refine bJ ?_
 refine ac (jl Z (am ?_))
 refine aN (jd Z (jb Z (st ((vF Z).cast (v':=eI (n:Nat)) (congrArg eI (by omega))) Z (st ((aQ O Z Z Z Z Z Z Z Z (dx hn)).cast (v':=ptr [fd f]) (by rw[hf])) Z (js Z (ip O (B0:=17000) Z Z Z Z (H3 (ts:=f) h1 h2 hl) (ab Z) Z Z Z Z Z (am ?_)))))))
 refine js Z (jl Z (am ?_))
 refine jo Z (am ?_)
 refine jn (ae (ac (js Z (jn (ak (ap (X:=Nat) (fun i=>⟨[(4,.c (.pt 4 0 0)),(5,.c (.pt 5 0 0)),(18,eI i)],[(4,.box [.d (.int .i64 0),.d .nils,.d .nils,.d .nils,.d .nils,.d (.int .i64 0)]),(5,.box [.d (.int .i64 ((n:Int)-1)),.rs 904 0 i,.d .nils,.rs 905 0 f.length,.rs 906 0 0,.d (.int .i64 4)]),(500,iB (bR E SS bd lo be nm) g 501 502 503),(501,aM g.paths),(502,aK g.conds),(503,aX nm),(904,aD (mA i)),(905,aD f),(906,aE [])]⟩) (fun i=>i≤4) (fun i=>4-i) 0 (((cf 5 904 2 false 1 Z Z Z).trans (cf 5 906 1 true 4 Z Z Z)).trans (((ah [4,5,500,501,502,503,904,17000,906] (e':=[(4,_),(5,_),(18,_)]) Z Z ⟨Z,Z,Z,tv⟩ Z).trans (aa 17000 905 Z Z)).trans (Ent.to ⟨Z,Z,Z,tv⟩ Z))) ?_ (fun i hi=>?_)))))))
 exact cG _
 have hvl:=jZ (i:=i)
 refine ac (js Z (jn (ae (zc Z (fun z19=>?_) (fun z19=>?_)))))
 refine af (ae (ak (ac (jb Z (jn (kx [_,_,_,_,_,_,_,_] [pn [] 0 2,pn [0] 0 2,p0,pe [2] 0,pe [2,3] 1,pe (rg 0 5) 2,pn (rg 0 6) 3 3,pe (rg 0 7) 3] [3,4,5,7] [_,_,_,_,_] [[],[],[904],[]] (ai (ka Z Z (ka Z Z (kw Z Z))) (ai (ka Z Z (ka Z Z (kw Z Z))) (ka Z Z (ai (ai (az (bB O (B0:=25000) Z Z Z Z (DI (k:=i) h1 h2 (by have:=bt z19;omega)) (ab Z) Z Z Z Z Z)) Z) (ai (ai (az (cD O Z Z Z Z Z Z Z Z Z Z Z Z Z Z)) Z) (ai (ai (bW (own:=false) (xs:=(mA i).map Tm.cells) (ys:=[Tm.cells (iC i)]) (zs:=(mA (i+1)).map Tm.cells) (n:=i+1) O Z Z Z Z Z Z Z Z Z Z Z Z Z Z Z Z (.row Z (by simp;omega)) (.whole Z Z (.inr ⟨Z,Z⟩)) (by simp) Z (by simp;omega) (by simp;omega) (by rw[ud];simp) (by simp[jZ]) Z) Z) (ka Z Z (ai (ai (az (eS Z Z Z)) Z) trivial)))))))) ?_))))))
 refine jw [20,19,4,5,18] Z (bJ ?_)
 refine ag (ji Z (js Z (jn ?_)))
 refine⟨i+1,((ah [4,5,500,501,502,503,26,905,906] (e':=[(4,_),(5,_),(18,_)]) Z Z ⟨Z,Z,Z,tv⟩ Z).trans (aa 26 904 Z Z)).trans (Ent.to ⟨Z,Z,Z,tv⟩ Z),by have:=bt z19;omega,by have:=bt z19;omega⟩
 refine aR (ac (js Z (jo Z (am ?_))))
 refine jr ?_
 obtain rfl:i=4:=by have:=b9 z19;omega
 refine⟨.inl Z,_,((aa 904 504 Z Z).trans (aa 905 505 Z Z)).trans (aa 906 506 Z Z),_,Z,Z,Z⟩
theorem Iq(ih:pc L c frm w g (fD [.st x,.lp k]) g'):MQ h1 h2 75 [wA frm w 4 5 6,.c (.pt 7 0 0),.c (.pt 8 0 0),.c (.pt 9 0 0)] (iT c g w (Tr.d (.node s a [x])) (.int .i64 (k:Nat))) (aO (.tup []) (oT c g' (Tr.d (.node s a [x])) (.int .i64 (k:Nat)))):=by
 refine MC.shift 500 Z (MC.keep [500,503,507,508,509,510,511] (bs:=[iB c g' 510 511 503,aX c.num,pB 500,xB (Tr.d (.node s a [x])),xB (.int .i64 (k:Nat)),aM g'.paths,aK g'.conds]) Z Z (jH 19 [500,501,502,503,504,505,506,507,508,509] h1 h2 Tryz.func75 Z fun O hF=>?_))
 refine bJ ?_
 refine ac (jx Z (am ?_))
 refine jn (kx [_,_,_,_,_,_,_,_,_,_,_,_,_,_] [pn [] 0 2,pn [] 0 2,pn [] 0 1,pn [2] 0 1,pn [2,3] 0 1,pn [2,3,4] 0 1,pn (rg 2 4) 0 1,pn (rg 2 5) 0 1,p0,pz [8],pe [8,9] 0,pn (rg 2 9) 1 1,pe (rg 2 10) 1,pe (rg 0 13) 2] [10,12,13] [_,_,_,_] [[],[],[501,502,504,505,506,17,15]] (ai (ka Z Z (ka Z Z (kw Z Z))) (ai (ka Z Z (ka Z Z (kw Z Z))) (ai (ka Z Z (kw Z Z)) (ai (ka Z Z (kw Z Z)) (ai (ka Z Z (kw Z Z)) (ai (ka Z Z (kw Z Z)) (ai (ai (ai (bw O Z Z Z Z Z Z Z Z (by simp[Trs.d]) Z) Z) (ai (bw O Z Z Z Z Z Z Z Z (by simp[Trs.d]) Z) Z)) (ai (ka Z Z (kw Z Z)) (ka Z Z (ka Z Z (ai (ai (az (Eff.box O Z Z Z Z Z Z Z Z)) Z) (ka Z Z (ai (ai (az (Eff.box O Z Z Z Z Z Z Z Z)) Z) (ai (ai (cn O [500,501,502,503,504,505,506,17,15] [501,502,504,505,506,17,15] (bin:=[iB c g 1 2 3,aM g.paths,aK g.conds,aX c.num,aD w.vars,aD w.facts,aE w.ev,.box [.d x.d,.d (.int .i64 0),.pt 8 0 0],BO .nilp (.int .i64 (k:Nat)) .nilp]) Z Z Z Z (EK ih) Z Z Z Z Z (B0:=19000) Z Z Z Z Z Z Z) Z) trivial)))))))))))))) ?_)
 show _∧_
 refine GF ?_
 refine⟨.inr Z,_,(aa 19010 510 Z Z).trans (aa 19011 511 Z Z),_,Z,Z,Z⟩
theorem Ip{lo:D}{RS:List (List Fr)}(hk:k<RS.length)(hr:RS.getD k default=r)(ih:pc L (bR E SS bd lo (.slc 1 (RS.map fun r=>[fD r])) nm) frm w g (fD r) g'):MQ h1 h2 76 [wA frm w 4 5 6,.c (.pt 7 0 0),.c (.pt 9 0 0)] (iT (bR E SS bd lo (.slc 1 (RS.map fun r=>[fD r])) nm) g w d8 (.int .i64 (k:Nat))) (aO (.tup []) (oT (bR E SS bd lo (.slc 1 (RS.map fun r=>[fD r])) nm) g' d8 (.int .i64 (k:Nat)))):=by
 refine MC.shift 500 Z (MC.keep [500,503,507,508,509,510,511] (bs:=[iB (bR E SS bd lo (.slc 1 (RS.map fun r=>[fD r])) nm) g' 510 511 503,aX nm,pB 500,xB d8,xB (.int .i64 (k:Nat)),aM g'.paths,aK g'.conds]) Z Z (jH 14 [500,501,502,503,504,505,506,507,508,509] h1 h2 Tryz.func76 Z fun O hF=>?_))
 refine bJ ?_
 refine ac (jx Z (am ?_))
 refine jn (kx [_,_,_,_,_,_,_,_,_,_] [p0,p0,p0,pz [2],pz [2,3],pz [2,3,4],p0,pz (rg 2 5),pz (rg 2 6),pe (rg 0 9) 0] [9] [_,_] [[501,502,504,505,506]] (ka Z Z (ka Z Z (ka Z Z (ka Z Z (ka Z Z (ka Z Z (ka Z Z (ai (ai ((aQ O Z Z Z Z Z Z Z Z (dx hk)).cast (v':=ptr [fD r]) (by rw[hr])) Z) (ka Z Z (ai (ai (cn O [500,501,502,503,504,505,506] [501,502,504,505,506] (bin:=[iB (bR E SS bd lo (.slc 1 (RS.map fun r=>[fD r])) nm) g 1 2 3,aM g.paths,aK g.conds,aX nm,aD w.vars,aD w.facts,aE w.ev]) Z Z Z Z (ih) Z Z Z Z Z (B0:=14000) Z Z Z Z Z Z Z) Z) trivial)))))))))) ?_)
 show _∧_
 refine GF ?_
 refine⟨.inr Z,_,(aa 14010 510 Z Z).trans (aa 14011 511 Z Z),_,Z,Z,Z⟩
set_option maxHeartbeats 8000000
theorem sX{L:Nat}(h1:4096≤L)(h2:L≤1073741824){E:Pe}{SS:List (List Tm)}{bd lo be:D}{nm:List (Int×D)}{g:Gs}{n:Nat}{f:List Tm}{w:Pw}{frm:Int}(hw:w0 f=w)(hn:n<SS.length)(hsl:SS.length≤1000)(hf:SS.getD n default=f)(hl:f.length≤1000)(hfr:frm=(n:Int)-1):MC Tryz.prog L 71 [.c (.pt 0 0 0),eI frm] [(0,iB (bR E SS bd lo be nm) g 1 2 3),(1,aM g.paths),(2,aK g.conds),(3,aX nm)] (aO (wA frm w 4 5 6) [(0,iB (bR E SS bd lo be nm) g 1 2 3),(1,aM g.paths),(2,aK g.conds),(3,aX nm),(4,aD w.vars),(5,aD w.facts),(6,aE w.ev)]):=by
 subst hw;subst hfr;exact Ir h1 h2 hn hsl hf hl
variable{LP:List Lp}
theorem Fy{f:List Tm}{G:Gs}(hw:w0 f=w)(hn:0<SS.length)(hsl:SS.length≤1000)(hf:SS.getD 0 default=f)(hfl:f.length≤1000)(hbd:bd=t.d)(ih:pc L (bR E SS bd (.slc 1 (LP.map fun q=>[lm q])) (.slc 1 ((LP.map (·.r)).map fun r=>[fD r])) nm) (-1) w g (fD [.st t]) G):MQ h1 h2 48 [.c (.pt 0 0 0),eI (-1)] [(0,iB (bR E SS bd (.slc 1 (LP.map fun q=>[lm q])) (.slc 1 ((LP.map (·.r)).map fun r=>[fD r])) nm) g 1 2 3),(1,aM g.paths),(2,aK g.conds),(3,aX nm)] (aO (.tup []) (oF (bR E SS bd (.slc 1 (LP.map fun q=>[lm q])) (.slc 1 ((LP.map (·.r)).map fun r=>[fD r])) nm) G)):=by
 refine MC.shift 500 Z (MC.keep [500,503,510,511] (R:=.tup []) (bs:=[iB (bR E SS bd (.slc 1 (LP.map fun q=>[lm q])) (.slc 1 ((LP.map (·.r)).map fun r=>[fD r])) nm) G 510 511 503,aX nm,aM G.paths,aK G.conds]) Z Z (jH 45 [500,501,502,503] h1 h2 Tryz.func48 Z fun O hF=>?_))
 subst hbd
 refine bJ ?_
 refine ac (jx Z (am ?_))
 refine jx Z (am ?_)
 refine jn (ae (rk [_,_,_,_,_,_,_] [p0,pz [0],pz [0,1],p0,pe [0,1,2,3] 0,pn [] 0 1,pe [0,1,2,3,4,5] 1] [4,6] 5 4 (.box [.d (.int .i64 0),.d .nils,.d .nils,.d .nils,.d .nils,.d (.int .i64 0)]) [_,_] [_] [[],[]] (kf Z Z Z (kf Z Z Z (kf Z Z Z (kf Z Z Z (ai (ai (au (az (b0 O [500,501,502,503] (bin:=[iB (bR E SS t.d (.slc 1 (LP.map fun q=>[lm q])) (.slc 1 ((LP.map (·.r)).map fun r=>[fD r])) nm) g 1 2 3,aM g.paths,aK g.conds,aX nm]) Z Z Z Z (sX (E:=E) (SS:=SS) (bd:=t.d) (lo:=(.slc 1 (LP.map fun q=>[lm q]))) (be:=(.slc 1 ((LP.map (·.r)).map fun r=>[fD r]))) (nm:=nm) (g:=g) (n:=0) (f:=f) (w:=w) h1 h2 hw hn hsl hf hfl Z) Z Z Z Z Z (B0:=11000) Z Z Z Z Z Z)) (az (b0 O [500,501,502,503] (bin:=[iB (bR E SS t.d (.slc 1 (LP.map fun q=>[lm q])) (.slc 1 ((LP.map (·.r)).map fun r=>[fD r])) nm) g 1 2 3,aM g.paths,aK g.conds,aX nm]) Z Z Z Z (sX (E:=E) (SS:=SS) (bd:=t.d) (lo:=(.slc 1 (LP.map fun q=>[lm q]))) (be:=(.slc 1 ((LP.map (·.r)).map fun r=>[fD r]))) (nm:=nm) (g:=g) (n:=0) (f:=f) (w:=w) h1 h2 hw hn hsl hf hfl Z) Z Z Z Z Z (B0:=11000) Z Z Z Z Z Z))) Z) (ai (ai (ai (az (Eff.alloc O Z Z Z Z Z Z)) Z) (ai (az (Eff.alloc O Z Z Z Z Z Z)) Z)) (ai (ai (au trivial (az (eS Z Z Z))) Z) trivial))))))) ?_))
 refine jw [4,3,2,1] Z (bJ ?_)
 refine ae (ac (jb Z (jn (zc Z (fun z12=>?_) (fun z12=>?_)))))
 refine ae (jw [11,4,3,2,1] Z (kx [_,_,_,_,_,_,_,_,_] [pn [] 0 1,pn [] 0 1,p0,pz [2],pz [2,3],pz [2,3,4],pz (rg 2 4),pe (rg 2 5) 0,pe (rg 0 8) 1] [7,8] [_,_,_] [[],[501,502,11004,11005,11006,20]] (ai (ka Z Z (kw Z Z)) (ai (ka Z Z (kw Z Z)) (ka Z Z (ka Z Z (ka Z Z (ka Z Z (ka Z Z (ai (ai (az (Eff.box O Z Z Z Z Z Z Z Z)) Z) (ai (ai (cn O [500,501,502,503,11004,11005,11006,20] [501,502,11004,11005,11006,20] (bin:=[iB (bR E SS t.d (.slc 1 (LP.map fun q=>[lm q])) (.slc 1 ((LP.map (·.r)).map fun r=>[fD r])) nm) g 1 2 3,aM g.paths,aK g.conds,aX nm,aD w.vars,aD w.facts,aE w.ev,BO t.d (.int .i64 0) .nilp]) Z Z Z Z (w9 ih) Z Z Z Z Z (B0:=22000) Z Z Z Z Z Z Z) Z) trivial))))))))) ?_))
 refine jw [11,4,3,2,1] Z (bJ ?_)
 refine dJ ?_
 refine⟨.inl Z,_,(aa 22010 510 Z Z).trans (aa 22011 511 Z Z),_,Z,Z,Z⟩
 exact absurd z12 (by decide)
theorem Fx{f:List Tm}{q:Lp}{Y N:Pw→Gs→Gs}(hw:w0 f=w)(hk:k<LP.length)(hq:LP.getD k default=q)(hn:k+1<SS.length)(hsl:SS.length≤1000)(hf:SS.getD (k+1) default=f)(hfl:f.length≤1000)(hs:q.s.sum.ok=true∧q.s.sum.xs.length≤4)(hkl:k≤1000)(hY:o9 Y)(hN:o9 N)
  (hy:(cF w (aG q.s.sum w.vars).1 (aU w q.s.sum g)).bad=false→pc L (bR E SS bd (.slc 1 (LP.map fun q=>[lm q])) (.slc 1 ((LP.map (·.r)).map fun r=>[fD r])) nm) (k:Nat) (w.fact (aG q.s.sum w.vars).1) (cF w (aG q.s.sum w.vars).1 (aU w q.s.sum g)) (fD [.st q.x,.lp k]) (Y (w.fact (aG q.s.sum w.vars).1) (cF w (aG q.s.sum w.vars).1 (aU w q.s.sum g)))) (hn2:(Y (w.fact (aG q.s.sum w.vars).1) (cF w (aG q.s.sum w.vars).1 (aU w q.s.sum g))).bad=false→pc L (bR E SS bd (.slc 1 (LP.map fun q=>[lm q])) (.slc 1 ((LP.map (·.r)).map fun r=>[fD r])) nm) (k:Nat) (w.fact (aL (aG q.s.sum w.vars).1).1) (Y (w.fact (aG q.s.sum w.vars).1) (cF w (aG q.s.sum w.vars).1 (aU w q.s.sum g))) (fD q.r) (N (w.fact (aL (aG q.s.sum w.vars).1).1) (Y (w.fact (aG q.s.sum w.vars).1) (cF w (aG q.s.sum w.vars).1 (aU w q.s.sum g))))) :
  MQ h1 h2 48 [.c (.pt 0 0 0),eI (k:Nat)] [(0,iB (bR E SS bd (.slc 1 (LP.map fun q=>[lm q])) (.slc 1 ((LP.map (·.r)).map fun r=>[fD r])) nm) g 1 2 3),(1,aM g.paths),(2,aK g.conds),(3,aX nm)] (aO (.tup []) (oF (bR E SS bd (.slc 1 (LP.map fun q=>[lm q])) (.slc 1 ((LP.map (·.r)).map fun r=>[fD r])) nm) (dC Y N w (aG q.s.sum w.vars).1 (aU w q.s.sum g)))):=by
 refine MC.shift 500 Z (MC.keep [500,503,510,511] (R:=.tup []) (bs:=[iB (bR E SS bd (.slc 1 (LP.map fun q=>[lm q])) (.slc 1 ((LP.map (·.r)).map fun r=>[fD r])) nm) (dC Y N w (aG q.s.sum w.vars).1 (aU w q.s.sum g)) 510 511 503,aX nm,aM (dC Y N w (aG q.s.sum w.vars).1 (aU w q.s.sum g)).paths,aK (dC Y N w (aG q.s.sum w.vars).1 (aU w q.s.sum g)).conds]) Z Z (jH 45 [500,501,502,503] h1 h2 Tryz.func48 Z fun O hF=>?_))
 have hv4:w.vars.length=4:=by rw[←hw];exact jZ
 have hfw:w.facts.length≤1000:=by rw[←hw];exact hfl
 have hew:w.ev.length≤1000:=by rw[←hw];exact cG _
 have hva:=s9 (w:=w) ⟨by rw[←hw];show∀t∈mA 4,t.ok=true;decide,by omega⟩ hv4
 refine bJ ?_
 refine ac (jx Z (am ?_))
 refine jx Z (am ?_)
 refine jn (ae (rk [_,_,_,_,_,_,_] [p0,pz [0],pz [0,1],p0,pe [0,1,2,3] 0,pn [] 0 1,pe [0,1,2,3,4,5] 1] [4,6] 5 4 (.box [.d (.int .i64 0),.d .nils,.d .nils,.d .nils,.d .nils,.d (.int .i64 0)]) [_,_] [_] [[],[]] (kf Z Z Z (kf Z Z Z (kf Z Z Z (kf Z Z Z (ai (ai (au (az (b0 O [500,501,502,503] (bin:=[iB (bR E SS bd (.slc 1 (LP.map fun q=>[lm q])) (.slc 1 ((LP.map (·.r)).map fun r=>[fD r])) nm) g 1 2 3,aM g.paths,aK g.conds,aX nm]) Z Z Z Z (sX (E:=E) (SS:=SS) (bd:=bd) (lo:=(.slc 1 (LP.map fun q=>[lm q]))) (be:=(.slc 1 ((LP.map (·.r)).map fun r=>[fD r]))) (nm:=nm) (g:=g) (n:=k+1) (f:=f) (w:=w) h1 h2 hw hn hsl hf hfl (by omega)) Z Z Z Z Z (B0:=11000) Z Z Z Z Z Z)) (az (b0 O [500,501,502,503] (bin:=[iB (bR E SS bd (.slc 1 (LP.map fun q=>[lm q])) (.slc 1 ((LP.map (·.r)).map fun r=>[fD r])) nm) g 1 2 3,aM g.paths,aK g.conds,aX nm]) Z Z Z Z (sX (E:=E) (SS:=SS) (bd:=bd) (lo:=(.slc 1 (LP.map fun q=>[lm q]))) (be:=(.slc 1 ((LP.map (·.r)).map fun r=>[fD r]))) (nm:=nm) (g:=g) (n:=k+1) (f:=f) (w:=w) h1 h2 hw hn hsl hf hfl (by omega)) Z Z Z Z Z (B0:=11000) Z Z Z Z Z Z))) Z) (ai (ai (ai (az (Eff.alloc O Z Z Z Z Z Z)) Z) (ai (az (Eff.alloc O Z Z Z Z Z Z)) Z)) (ai (ai (au trivial (az (eS Z Z Z))) Z) trivial))))))) ?_))
 refine jw [4,3,2,1] Z (bJ ?_)
 refine ae (ac (jb Z (jn (zc Z (fun z12=>?_) (fun z12=>?_)))))
 exact absurd (bt z12) (by omega)
 refine af (ae (jw [11,4,3,2,1] Z (rk [_,_,_,_,_,_,_,_,_] [p0,pz [0],pz [0,1],pz [0,1,2],p0,pz [0,1,2,3,4],pz [0,1,2,3,4,5],p0,pe [0,1,2,3,4,5,6,7] 0] [8] 7 5 (.box [.d .nilp]) [_] [_] [] (kf Z Z Z (kf Z Z Z (kf Z Z Z (kf Z Z Z (kf Z Z Z (ai (ai (au ((aQ O Z Z Z Z Z Z Z Z (dx hk)).cast (v':=ptr [lm q]) (by rw[hq])) ((aQ O Z Z Z Z Z Z Z Z (dx hk)).cast (v':=ptr [lm q]) (by rw[hq]))) Z) (kf Z Z Z (ai (ai (az (Eff.alloc O Z Z Z Z Z Z)) Z) (ai (ai (au trivial (az (eS Z Z Z))) Z) trivial))))))))) ?_)))
 refine jw [5,11,4,3,2,1] Z (bJ ?_)
 have hrr:(LP.map (·.r)).getD k default=q.r:=by rw[←hq];simp[List.getD_eq_getElem?_getD,hk]
 have hT:=Ft (c:=(bR E SS bd (.slc 1 (LP.map fun q=>[lm q])) (.slc 1 ((LP.map (·.r)).map fun r=>[fD r])) nm)) (g:=(aU w q.s.sum g)) (frm:=(k:Nat)) (w:=w) (t:=(aG q.s.sum w.vars).1) (d8:=lm q) (d9:=.int .i64 (k:Nat)) (Y:=Y) (N:=N) h1 h2 hY hN eU (by omega) hfw hew (fun h=>Iq h1 h2 (hy h)) (fun h=>Ip (d8:=lm q) h1 h2 (k:=k) (by rw[bA];exact hk) hrr (hn2 h))
 refine kx [_,_,_,_,_,_,_,_,_,_,_,_,_,_,_,_] [pn [] 0 1,pn [0] 0 1,pn [0,1] 0 1,pn [] 0 1,p0,pz [4],pz [4,5],p0,pz [7],pz [7,8],pz [7,8,9],pz (rg 7 4),pe (rg 4 8) 0,pn [] 0 1,pn [] 0 1,pe (rg 0 15) 1] [12,15] [_,[(2,pB 500),(3,xB (.int .i64 (k:Nat))),(5,xB (lm q)),(500,iB (bR E SS bd (.slc 1 (LP.map fun q=>[lm q])) (.slc 1 ((LP.map (·.r)).map fun r=>[fD r])) nm) (aU w q.s.sum g) 501 502 503),(501,aM (aU w q.s.sum g).paths),(502,aK (aU w q.s.sum g).conds),(503,aX nm),(4,iW (k:Nat) w 11004 11005 11006),(11004,aD w.vars),(11005,aD w.facts),(11006,aE w.ev)],_] [[],[501,502,11004,11005,11006]] (ai (ka Z Z (kw Z Z)) (ai (ka Z Z (kw Z Z)) (ai (ka Z Z (kw Z Z)) (ai (ka Z Z (kw Z Z)) (ka Z Z (ka Z Z (ka Z Z (ka Z Z (ka Z Z (ka Z Z (ka Z Z (ka Z Z (ai (ai (az (b0 O [500,501,502,503,4,11004,11005,11006] (bin:=[iB (bR E SS bd (.slc 1 (LP.map fun q=>[lm q])) (.slc 1 ((LP.map (·.r)).map fun r=>[fD r])) nm) g 1 2 3,aM g.paths,aK g.conds,aX nm,iW (k:Nat) w 5 6 7,aD w.vars,aD w.facts,aE w.ev]) Z Z Z Z (oB (c:=(bR E SS bd (.slc 1 (LP.map fun q=>[lm q])) (.slc 1 ((LP.map (·.r)).map fun r=>[fD r])) nm)) (g:=g) (frm:=(k:Nat)) (w:=w) (t:=q.s.sum) h1 h2 hs.1 hva (by have:=hs.2;omega)) Z Z Z Z Z (B0:=42000) Z Z Z Z Z Z)) Z) (ai (ka Z Z (kw Z Z)) (ai (ka Z Z (kw Z Z)) (ai (ai (cn O [500,501,502,503,11004,11005,11006,2,5,3] [501,502,11004,11005,11006] (bin:=[iB (bR E SS bd (.slc 1 (LP.map fun q=>[lm q])) (.slc 1 ((LP.map (·.r)).map fun r=>[fD r])) nm) (aU w q.s.sum g) 1 2 3,aM (aU w q.s.sum g).paths,aK (aU w q.s.sum g).conds,aX nm,aD w.vars,aD w.facts,aE w.ev,pB 0,xB (lm q),xB (.int .i64 (k:Nat))]) Z Z Z Z (hT) Z Z Z Z Z (B0:=45000) Z Z Z Z Z Z Z) Z) trivial)))))))))))))))) ?_
 show _∧_
 refine GF ?_
 refine⟨.inr Z,_,(aa 45010 510 Z Z).trans (aa 45011 511 Z Z),_,Z,Z,Z⟩
abbrev x7(p:Pm)(t:Tr):Pc:=bR (tS p.body p.post) (p.pre::(kn t).lp.map (·.s.facts)) t.d (.slc 1 ((kn t).lp.map fun q=>[lm q])) (.slc 1 (((kn t).lp.map (·.r)).map fun r=>[fD r])) (kn t).nm
abbrev D0(p:Pm)(t:Tr)(g:Gs):List (Nat×B):=[(0,iB (x7 p t) g 1 2 3),(1,aM g.paths),(2,aK g.conds),(3,aX (kn t).nm)]
abbrev BK(p:Pm)(t:Tr)(g:Gs):List (Nat×B):=[(0,iB (x7 p t) g 10 11 3),(3,aX (kn t).nm),(10,aM g.paths),(11,aK g.conds)]
variable{p:Pm}
theorem AA(hp:gt p=true)(htd:BI p.body=t.d)(ht:PtOk p t):MQ h1 h2 46 [ky p] [] (aO (.tup [.c (.pt 0 0 0),eB true]) (D0 p t g0)):=by
 refine MC.shift 500 Z (MC.keep [500,501,502,503] (bs:=[iB (x7 p t) g0 501 502 503,aM [],aK [],aX (kn t).nm]) Z Z (jB 30 h1 h2 Tryz.func46 Z fun O hF=>?_))
 have hfd:=rE (L:=L) h1 h2 ht.tree (r:=[]) (c:=⟨[],[]⟩) (by have:=ht.nodes;show 0+_≤_;omega) (post:=fd p.post) (bd:=t.d) (pre:=p.pre)
 refine ac (jx Z (am ?_))
 refine an (Ent.freeze 1 (e':=[(1,_),(0,_)]) Z (.cons Z (.c (.box (cs:=Pm.data p) Z (ax Z))) (fe [0] Z)) (.skip .nil)) ?_
 refine am ?_
 refine jb Z (jn (ae (ac (js Z (lo Z ((Ha (p:=p) h1 h2).plain (u:=eB true) (by rw[hp])) 9000 Z (js Z (jn (zc Z (fun z9=>?_) (fun z9=>?_)))))))))
 cases z9
 refine af (ac (jb Z (aj O Z Z Z Z (Eh h1 h2) (ab Z) Z Z Z Z (B0:=14000) Z Z ?_)))
 rw[htd]
 refine jd Z (js Z (aN (jd Z (hp (aZ O Z Z Z Z Z Z Z Z Z Z Z) Z (am ?_)))))
 refine jb Z (hp (HS.makeMap O Z Z Z Z) Z (am ?_))
 refine am ?_
 refine js Z (jx Z (am ?_))
 refine js Z (aN (jb Z (an (cf 25 902 1 false 6 Z Z Z) (am ?_))))
 refine an (cf 25 903 1 false 7 Z Z Z) (am ?_)
 refine ao O [25,20,902,903,23] (bin:=[zB (fd p.post) t.d ⟨[],[]⟩ 1 2 3 4,y6 p.pre ⟨[],[]⟩,y8 ⟨[],[]⟩,za ⟨[],[]⟩,aX []]) Z Z Z Z (hfd.1) Z Z Z Z Z Z (B0:=29000) Z Z (am ?_)
 refine aN (an (Ent.freeze 29010 (e':=[(6,_)]) Z (fe [6] Z) (.cons Z (.box (ck Z (.cons (.row Z (by simp)) (fk Z)))) (.cons Z .map (.skip (cw Z (cw Z .nil)))))) ?_)
 refine an (Ent.freeze 29011 (e':=[(6,_)]) Z (fe [6] Z) (.cons Z (.box (ck Z (ck Z (ck Z (ck Z (ck Z (ck Z (.cons (.row Z (by simp)) (fk Z))))))))) (.cons Z .map (.skip (cw Z .nil))))) ?_
 refine an (Ent.freeze 29012 (e':=[(6,_)]) Z (fe [6] Z) (.cons Z (.box (ck Z (ck Z (ck Z (ck Z (ck Z (ck Z (ck Z (.cons (.row Z (by simp)) (fk Z)))))))))) (.cons Z .map (.skip .nil)))) ?_
 refine an (cf 25 901 5 true 2 Z Z Z) (am ?_)
 refine an (cf 25 904 3 true 3 Z Z Z) (am ?_)
 refine jc Z (jr ?_)
 refine⟨.inl Z,_,(((aa 25 500 Z Z).trans (aa 901 501 Z Z)).trans (aa 904 502 Z Z)).trans (aa 23 503 Z Z),_,Z,Z,Z⟩
theorem tD{al:Nat→Gs}(h: ∀i,(al i).bad=true→al (i+1)=al i){i:Nat}(hb:(al i).bad=true): ∀{n:Nat},i≤n→al n=al i:=fun{n} hn=>by
 induction n with
 | zero=>
  obtain rfl:i=0:=by omega
  rfl
 | succ n ih=>
  rcases Nat.lt_or_ge n i with h1|h1
  obtain rfl:i=n+1:=by omega
  rfl
  have:=ih h1
  rw[h n (by rw[this];exact hb),this]
theorem Fz{k:Int}{al:Nat→Gs}(hl:(p.pre::(kn t).lp.map (·.s.facts)).length≤1000)(hst: ∀i,(al i).bad=true→al (i+1)=al i)(h0:(al 0).bad=false)(hal: ∀i:Nat,i<(p.pre::(kn t).lp.map (·.s.facts)).length→(al i).bad=false→MQ h1 h2 48 [.c (.pt 0 0 0),eI ((i:Int)-1)] (D0 p t (al i)) (aO (.tup []) (BK p t (al (i+1))))):MQ h1 h2 47 [.c (.pt 0 0 0),eB true,eI k,.c (.fb 48 [.pt 0 0 0])] (D0 p t (al 0)) (aO (eB (!(al (p.pre::(kn t).lp.map (·.s.facts)).length).bad)) (BK p t (al (p.pre::(kn t).lp.map (·.s.facts)).length))):=by
 refine MC.shift 500 Z (MC.keep [500,503,510,511] (R:=eB (!(al (p.pre::(kn t).lp.map (·.s.facts)).length).bad)) (bs:=[iB (x7 p t) (al (p.pre::(kn t).lp.map (·.s.facts)).length) 510 511 503,aX (kn t).nm,aM (al (p.pre::(kn t).lp.map (·.s.facts)).length).paths,aK (al (p.pre::(kn t).lp.map (·.s.facts)).length).conds]) Z Z (jH 41 [500,501,502,503] h1 h2 Tryz.func47 Z fun O hF=>?_))
 refine bJ ?_
 refine ac (js Z (jn (ae (ac (jb Z (jn (zc Z (fun z11=>?_) (fun z11=>?_))))))))
 cases z11
 refine af (ae (ac (jd Z (cW Z (js Z (jn (ak (ap (X:=Nat) (fun i=>⟨[(0,.c (.pt 500 0 0)),(3,.c (.fb 48 [.pt 500 0 0])),(28,eI ((p.pre::(kn t).lp.map (·.s.facts)).length:Nat)),(29,eI i)],[(500,iB (x7 p t) (al i) 901 902 503),(503,aX (kn t).nm),(901,aM (al i).paths),(902,aK (al i).conds)]⟩) (fun i=>i≤(p.pre::(kn t).lp.map (·.s.facts)).length∧(al i).bad=false) (fun i=>(p.pre::(kn t).lp.map (·.s.facts)).length-i) 0 ((((ah [500,503,501,502] (e':=[(0,_),(3,_),(28,_),(29,_)]) Z Z ⟨Z,Z,Z,Z,tv⟩ Z).trans (aa 501 901 Z Z)).trans (aa 502 902 Z Z)).trans (Ent.to ⟨Z,Z,Z,Z,tv⟩ Z)) ?_ (fun i hi=>?_)))))))))
 exact⟨cG _,h0⟩
 refine ac (js Z (jn (ae (zc Z (fun z30=>?_) (fun z30=>?_)))))
 refine af (ae (ak (ac (jb Z (aN (jb Z (ji Z (y5 O [500,901,902,503] (bin:=[iB (x7 p t) (al i) 1 2 3,aM (al i).paths,aK (al i).conds,aX (kn t).nm]) Z Z Z Z (hal i (by have:=bt z30;omega) hi.2) Z Z Z Z Z Z (B0:=36000) Z Z (am ?_)))))))))
 refine aN (jd Z (jn (zc Z (fun z39=>?_) (fun z39=>?_))))
 refine ac (js Z (jr ?_))
 have e:=tD hst (show(al (i+1)).bad=true from z39) (n:=(p.pre::(kn t).lp.map (·.s.facts)).length) (by have:=bt z30;omega)
 rw[e]
 refine⟨.inl Z,_,(aa 36010 510 Z Z).trans (aa 36011 511 Z Z),_,Z,by rw[show(al (i+1)).bad=true from z39];rfl,Z⟩
 refine af (ag (ji Z (js Z (jn ?_))))
 refine⟨i+1,(((ah [500,503,36010,36011] (e':=[(0,_),(3,_),(28,_),(29,_)]) Z Z ⟨Z,Z,Z,Z,tv⟩ Z).trans (aa 36010 901 Z Z)).trans (aa 36011 902 Z Z)).trans (Ent.to ⟨Z,Z,Z,Z,tv⟩ Z),⟨by have:=bt z30;omega,z39⟩,by have:=bt z30;omega⟩
 refine aR (ac (js Z (jr ?_)))
 obtain rfl:i=(p.pre::(kn t).lp.map (·.s.facts)).length:=by have:=b9 z30;omega
 refine⟨.inl Z,_,(aa 901 510 Z Z).trans (aa 902 511 Z Z),_,Z,by rw[hi.2];rfl,Z⟩
theorem FT(hl:g.conds.length≤L)(hc:gU g.conds=true):MQ h1 h2 33 [.c (.pt 0 0 0)] [(0,iB c g 1 2 3),(1,aM g.paths),(2,aK g.conds),(3,aX c.num)] (aO (.tup [.c (.rs 2 0 g.conds.length),eB true]) [(0,iB c g 1 2 3),(1,aM g.paths),(2,aK g.conds),(3,aX c.num)]):=by
 refine MC.shift 500 Z (MC.keep [500,501,502,503] (bs:=[iB c g 501 502 503,aM g.paths,aK g.conds,aX c.num]) Z Z (jH 29 [500,501,502,503] h1 h2 Tryz.func33 Z fun O hF=>?_))
 refine bJ ?_
 have hall: ∀i,i<g.conds.length→dF (g.conds.getD i default)=true:=fun i hi=>by rw[aw hi];exact List.all_eq_true.1 (Bool.and_eq_true_iff.1 hc).1 _ (List.getElem_mem hi)
 refine ac (jb Z (jn (ae (ac (jd Z (db Z Z (js Z (jn (zc Z (fun z11=>?_) (fun z11=>?_))))))))))
 exact absurd (bt z11) (by have:=(Bool.and_eq_true_iff.1 hc).2;have:=bt this;omega)
 refine af (ae (ac (jd Z (db Z Z (js Z (jn (ak (ap (X:=Nat) (fun i=>⟨[(0,.c (.pt 500 0 0)),(15,.c (.rs 502 0 g.conds.length)),(16,eI g.conds.length),(17,eI i)],[(500,iB c g 501 502 503),(501,aM g.paths),(502,aK g.conds),(503,aX c.num)]⟩) (fun i=>i≤g.conds.length∧∀j (h:j<g.conds.length),j<i→dF g.conds[j]=true) (fun i=>g.conds.length-i) 0 (Ent.to ⟨Z,Z,Z,Z,tv⟩ Z) ?_ (fun i hi=>?_)))))))))
 exact⟨cG _,fun j h hj=>absurd hj (Nat.not_lt_zero j)⟩
 refine ac (js Z (jn (ae (zc Z (fun z18=>?_) (fun z18=>?_)))))
 refine af (ae (ak (ac ?_)))
 have hil:i<g.conds.length:=by have:=bt z18;omega
 have hRi:(g.conds.map Sq.cells)[0+(i:Int).toNat]? = some (Sq.cells (g.conds.getD i default)):=by rw[Int.toNat_natCast,Nat.zero_add,List.getElem?_map,aw hil,List.getElem?_eq_getElem hil];rfl
 refine db Z Z (st (bc O (ex:=Sq.cells (g.conds.getD i default)) Z Z Z Z hRi Z) Z (jl Z (am ?_)))
 refine jo Z (am ?_)
 refine aN (js Z (da O Z Z Z Z (B3 (s:=(g.conds.getD i default)) h1 h2) (.cons (.agg (.cons (.rp Z hRi Z) (.cons .d (.cons (.rp Z hRi Z) .nil)))) .nil) Z Z Z Z Z (B0:=23000) Z (js Z (jn (zc Z (fun z23=>?_) (fun z23=>?_))))))
 exact absurd z23 (by rw[hall i (by have:=bt z18;omega)];decide)
 refine af (ag (ji Z (js Z (jn ?_))))
 refine⟨i+1,(ah [500,501,502,503] (e':=[(0,_),(15,_),(16,_),(17,_)]) Z Z ⟨Z,Z,Z,Z,tv⟩ Z).trans (Ent.to ⟨Z,Z,Z,Z,tv⟩ Z),⟨by have:=bt z18;omega,fun j h hj=>?_⟩,by have:=bt z18;omega⟩
 by_cases e:j=i
 subst e;rw[aw h]at z23;simpa using z23
 exact hi.2 j h (by omega)
 refine aR (ac (jd Z (jb Z (jr ?_))))
 refine⟨.inl Z,_,ah [500,501,502,503] (e':=[(2,_),(3,_)]) Z Z ⟨Z,Z,tv⟩ Z,_,Z,Z,Z⟩
theorem FU(hl:g.conds.length≤L)(hc:gU g.conds=false):MQ h1 h2 33 [.c (.pt 0 0 0)] [(0,iB c g 1 2 3),(1,aM g.paths),(2,aK g.conds),(3,aX c.num)] (aO (.tup [.c (.d .nils),eB false]) [(0,iB c g 1 2 3),(1,aM g.paths),(2,aK g.conds),(3,aX c.num)]):=by
 refine MC.shift 500 Z (MC.keep [500,501,502,503] (bs:=[iB c g 501 502 503,aM g.paths,aK g.conds,aX c.num]) Z Z (jH 29 [500,501,502,503] h1 h2 Tryz.func33 Z fun O hF=>?_))
 refine bJ ?_
 refine ac (jb Z (jn (ae (ac (jd Z (db Z Z (js Z (jn (zc Z (fun z11=>?_) (fun z11=>?_))))))))))
 refine ac (jb Z (jr ?_))
 refine⟨.inl Z,_,ah [500,501,502,503] (e':=[(2,_),(3,_)]) Z Z ⟨Z,Z,tv⟩ Z,_,Z,Z,Z⟩
 refine af (ae (ac (jd Z (db Z Z (js Z (jn (ak (ap (X:=Nat) (fun i=>⟨[(0,.c (.pt 500 0 0)),(15,.c (.rs 502 0 g.conds.length)),(16,eI g.conds.length),(17,eI i)],[(500,iB c g 501 502 503),(501,aM g.paths),(502,aK g.conds),(503,aX c.num)]⟩) (fun i=>i≤g.conds.length∧∀j (h:j<g.conds.length),j<i→dF g.conds[j]=true) (fun i=>g.conds.length-i) 0 (Ent.to ⟨Z,Z,Z,Z,tv⟩ Z) ?_ (fun i hi=>?_)))))))))
 exact⟨cG _,fun j h hj=>absurd hj (Nat.not_lt_zero j)⟩
 refine ac (js Z (jn (ae (zc Z (fun z18=>?_) (fun z18=>?_)))))
 refine af (ae (ak (ac ?_)))
 have hil:i<g.conds.length:=by have:=bt z18;omega
 have hRi:(g.conds.map Sq.cells)[0+(i:Int).toNat]? = some (Sq.cells (g.conds.getD i default)):=by rw[Int.toNat_natCast,Nat.zero_add,List.getElem?_map,aw hil,List.getElem?_eq_getElem hil];rfl
 refine db Z Z (st (bc O (ex:=Sq.cells (g.conds.getD i default)) Z Z Z Z hRi Z) Z (jl Z (am ?_)))
 refine jo Z (am ?_)
 refine aN (js Z (da O Z Z Z Z (B3 (s:=(g.conds.getD i default)) h1 h2) (.cons (.agg (.cons (.rp Z hRi Z) (.cons .d (.cons (.rp Z hRi Z) .nil)))) .nil) Z Z Z Z Z (B0:=23000) Z (js Z (jn (zc Z (fun z23=>?_) (fun z23=>?_))))))
 refine ac (jb Z (jr ?_))
 refine⟨.inl Z,_,ah [500,501,502,503] (e':=[(2,_),(3,_)]) Z Z ⟨Z,Z,tv⟩ Z,_,Z,Z,Z⟩
 refine af (ag (ji Z (js Z (jn ?_))))
 refine⟨i+1,(ah [500,501,502,503] (e':=[(0,_),(15,_),(16,_),(17,_)]) Z Z ⟨Z,Z,Z,Z,tv⟩ Z).trans (Ent.to ⟨Z,Z,Z,Z,tv⟩ Z),⟨by have:=bt z18;omega,fun j h hj=>?_⟩,by have:=bt z18;omega⟩
 by_cases e:j=i
 subst e;rw[aw h]at z23;simpa using z23
 exact hi.2 j h (by omega)
 refine aR (ac (jd Z (jb Z (jr ?_))))
 exfalso
 have hall:=jY (p:=dF) (fun j hj=>hi.2 j hj (by have:=b9 z18;omega))
 unfold gU at hc
 rw[hall,Bool.true_and]at hc
 exact absurd (b9 hc) (by have:=b9 z11;omega)
theorem FV{all:Bool}{k:Int}(hp:gt p=true)(htd:BI p.body=t.d)(ht:PtOk p t)(hg:MQ h1 h2 47 [.c (.pt 0 0 0),eB all,eI k,.c (.fb 48 [.pt 0 0 0])] (D0 p t g0) (aO (eB true) (BK p t g))):MQ h1 h2 26 [ky p,eB all,eI k] [] (aO (.tup [.c (.pt 0 0 0),eB true]) (BK p t g)):=by
 refine MC.shift 500 Z (MC.keep [500,503,510,511] (bs:=[iB (x7 p t) g 510 511 503,aX (kn t).nm,aM g.paths,aK g.conds]) Z Z (jB 29 h1 h2 Tryz.func26 Z fun O hF=>?_))
 refine ac (jx Z (am ?_))
 refine an (Ent.freeze 3 (e':=[(3,_),(0,_),(1,_),(2,_)]) Z (.cons Z (.c (.box (cs:=Pm.data p) Z (ax Z))) (fe [0,1,2] Z)) (.skip .nil)) ?_
 refine am ?_
 refine jb Z (aN (js Z (ao O [] (bin:=[]) Z Z Z Z (AA (p:=p) (t:=t) h1 h2 hp htd ht) Z Z Z Z Z Z (B0:=13000) Z Z (am ?_))))
 refine jd Z (js Z (jn (ae (ac (jc Z (ba Z (js Z (ba Z (js Z (ba Z (js Z (ba Z (js Z (ba Z (js Z (ba Z (js Z (ba Z (st (q9 O Z Z Z Z Z) Z (ba Z (ao O [13000,13001,13002,13003] (bin:=[iB (x7 p t) g0 1 2 3,aM [],aK [],aX (kn t).nm]) Z Z Z Z (hg) Z Z Z Z Z Z (B0:=26000) Z Z (am ?_))))))))))))))))))))))
 refine ba Z (js Z (st (ay O Z Z Z Z Z) Z (jn (zc Z (fun z27=>?_) (fun z27=>?_)))))
 exact absurd z27 (by decide)
 refine af (ac (jc Z (jr ?_)))
 refine⟨.inl Z,_,(((aa 13000 500 Z Z).trans (aa 13003 503 Z Z)).trans (aa 26010 510 Z Z)).trans (aa 26011 511 Z Z),_,Z,Z,Z⟩
theorem FW{all:Bool}{k:Int}(hp:gt p=true)(htd:BI p.body=t.d)(ht:PtOk p t)(hg:MQ h1 h2 47 [.c (.pt 0 0 0),eB all,eI k,.c (.fb 48 [.pt 0 0 0])] (D0 p t g0) (aO (eB false) (BK p t g))):MQ h1 h2 26 [ky p,eB all,eI k] [] (Plain (.tup [.c (.d .nilp),eB false])):=by
 refine MC.data (jB 29 h1 h2 Tryz.func26 Z fun O hF=>?_)
 refine ac (jx Z (am ?_))
 refine an (Ent.freeze 3 (e':=[(3,_),(0,_),(1,_),(2,_)]) Z (.cons Z (.c (.box (cs:=Pm.data p) Z (ax Z))) (fe [0,1,2] Z)) (.skip .nil)) ?_
 refine am ?_
 refine jb Z (aN (js Z (ao O [] (bin:=[]) Z Z Z Z (AA (p:=p) (t:=t) h1 h2 hp htd ht) Z Z Z Z Z Z (B0:=13000) Z Z (am ?_))))
 refine jd Z (js Z (jn (ae (ac (jc Z (ba Z (js Z (ba Z (js Z (ba Z (js Z (ba Z (js Z (ba Z (js Z (ba Z (js Z (ba Z (st (q9 O Z Z Z Z Z) Z (ba Z (ao O [13000,13001,13002,13003] (bin:=[iB (x7 p t) g0 1 2 3,aM [],aK [],aX (kn t).nm]) Z Z Z Z (hg) Z Z Z Z Z Z (B0:=26000) Z Z (am ?_))))))))))))))))))))))
 refine ba Z (js Z (st (ay O Z Z Z Z Z) Z (jn (zc Z (fun z27=>?_) (fun z27=>?_)))))
 refine ac (jb Z (jr ?_))
 refine eR Z ?_
 exact .tup (.cons (.c .d) (.cons (.c .d) .nil))
 exact absurd z27 (by decide)
theorem F5(hP:MQ h1 h2 26 [ky p,eB true,eI 0] [] (aO (.tup [.c (.pt 0 0 0),eB true]) (BK p t g)))(hl:g.conds.length≤L)(hc:gU g.conds=true):MQ h1 h2 15 [ky p] [] (Rows (.tup [.c (.rs 0 0 g.conds.length),eB true]) [aK g.conds]):=by
 refine cq (jB 19 h1 h2 Tryz.func15 Z fun O hF=>?_)
 refine ac (jx Z (am ?_))
 refine an (Ent.freeze 1 (e':=[(1,_),(0,_)]) Z (.cons Z (.c (.box (cs:=Pm.data p) Z (ax Z))) (fe [0] Z)) (.skip .nil)) ?_
 refine am ?_
 refine jb Z (aN (js Z (ao O [] (bin:=[]) Z Z Z Z (hP) Z Z Z Z Z Z (B0:=9000) Z Z (am ?_))))
 refine jd Z (js Z (jn (ae (ac (jb Z (jn (zc Z (fun z12=>?_) (fun z12=>?_))))))))
 exact absurd z12 (by decide)
 refine af (ac (jc Z (ao O [9000,9010,9011,9003] (bin:=[iB (x7 p t) g 1 2 3,aM g.paths,aK g.conds,aX (kn t).nm]) Z Z Z Z (FT (c:=x7 p t) (g:=g) h1 h2 hl hc) Z Z Z Z Z Z (B0:=17000) Z Z (am ?_))))
 refine jd Z (jr ?_)
 refine⟨.inl Z,_,bK,_,Z,[9011],by decide,Z,Z,Z⟩
theorem F6(hP:MQ h1 h2 26 [ky p,eB true,eI 0] [] (aO (.tup [.c (.pt 0 0 0),eB true]) (BK p t g)))(hl:g.conds.length≤L)(hc:gU g.conds=false):MQ h1 h2 15 [ky p] [] (Rows (.tup [.c (.d .nils),eB false]) []):=by
 refine cq (jB 19 h1 h2 Tryz.func15 Z fun O hF=>?_)
 refine ac (jx Z (am ?_))
 refine an (Ent.freeze 1 (e':=[(1,_),(0,_)]) Z (.cons Z (.c (.box (cs:=Pm.data p) Z (ax Z))) (fe [0] Z)) (.skip .nil)) ?_
 refine am ?_
 refine jb Z (aN (js Z (ao O [] (bin:=[]) Z Z Z Z (hP) Z Z Z Z Z Z (B0:=9000) Z Z (am ?_))))
 refine jd Z (js Z (jn (ae (ac (jb Z (jn (zc Z (fun z12=>?_) (fun z12=>?_))))))))
 exact absurd z12 (by decide)
 refine af (ac (jc Z (ao O [9000,9010,9011,9003] (bin:=[iB (x7 p t) g 1 2 3,aM g.paths,aK g.conds,aX (kn t).nm]) Z Z Z Z (FU (c:=x7 p t) (g:=g) h1 h2 hl hc) Z Z Z Z Z Z (B0:=17000) Z Z (am ?_))))
 refine jd Z (jr ?_)
 refine⟨.inl Z,_,bK,_,Z,[],by decide,Z,Z,Z⟩
theorem F7(hP:MQ h1 h2 26 [ky p,eB true,eI 0] [] (Plain (.tup [.c (.d .nilp),eB false]))):MQ h1 h2 15 [ky p] [] (Rows (.tup [.c (.d .nils),eB false]) []):=by
 refine cq (jB 19 h1 h2 Tryz.func15 Z fun O hF=>?_)
 refine ac (jx Z (am ?_))
 refine an (Ent.freeze 1 (e':=[(1,_),(0,_)]) Z (.cons Z (.c (.box (cs:=Pm.data p) Z (ax Z))) (fe [0] Z)) (.skip .nil)) ?_
 refine am ?_
 refine jb Z (aN (js Z (aj O Z Z Z Z (hP) (ab Z) Z Z Z Z (B0:=9000) Z Z (jd Z (js Z (jn (ae (ac (jb Z (jn (zc Z (fun z12=>?_) (fun z12=>?_))))))))))))
 refine ac (jb Z (jr ?_))
 refine⟨.inl Z,_,bK,_,Z,[],by decide,Z,Z,Z⟩
 exact absurd z12 (by decide)
theorem xC{t:Tm}:bp t=if(gV [⟨7,[]⟩,t] [1,-1]).ok=true then(gV [⟨7,[]⟩,t] [1,-1],true)else(⟨0,[]⟩,false):=by
 unfold bp x9 lY
 have h1:(1*(⟨7,[]⟩:Tm).c+ -1*t.c)=bm Tm.c [⟨7,[]⟩,t] [1,-1]:=by
  simp only[bm]<;>omega
 have h2:lZ ⟨7,[]⟩ 1 t (-1)=bE [⟨7,[]⟩,t] [1,-1]:=by
  unfold lZ bE
  apply List.map_congr_left
  intro k _
  simp only[bm,jU]<;>omega
 rw[h1,h2]
theorem zG:LaEq bD bp:=by
 refine⟨fun t _=>?_,fun t _ h=>?_⟩
 rw[xC];unfold bD;dsimp only
 cases h:(gV [⟨7,[]⟩,t] [1,-1]).ok<;>simp
 have h:(gV [⟨7,[]⟩,t] [1,-1]).ok=true:=h
 rw[xC,if_pos h];rfl
structure Sim(P:List Pth)(C:List Sq)(g h:Gs):Prop where
  ok:g.bad=false→h.bad=false∧g.paths=P++h.paths∧g.conds=C++h.conds∧g.paths.length≤200
  bad:g.bad=true→h.bad=true∨200<P.length+h.paths.length
theorem Sim.flag{P C g h}(s:Sim P C g h){b:Bool}:Sim P C (g.flag b) (h.flag b):=by
 refine⟨fun e=>?_,fun e=>?_⟩
 simp only[Gs.flag,Bool.or_eq_false_iff]at e ⊢
 have:=s.ok e.1
 exact⟨⟨this.1,e.2⟩,this.2⟩
 simp only[Gs.flag,Bool.or_eq_true]at e ⊢
 rcases e with e|e
 exact(s.bad e).imp .inl id
 exact .inl (.inr e)
theorem Sim.goal{P C g h}(s:Sim P C g h){w:Pw}{t:Tm}:Sim P C (g.goal w t) (h.goal w t):=
  ⟨fun e=>by
 have:=s.ok e
 exact⟨this.1,this.2.1,by simp only[Gs.goal,this.2.2.1,gm],this.2.2.2⟩,fun e=>s.bad e⟩
theorem Sim.path{P C g h}(s:Sim P C g h){frm:Int}{w:Pw}{to:Int}:Sim P C (ju frm w to g) (ju frm w to h):=by
 refine⟨fun e=>?_,fun e=>?_⟩
 simp only[ju,Bool.or_eq_false_iff,decide_eq_false_iff_not]at e ⊢
 have:=s.ok e.1
 have hl:=congrArg List.length this.2.1
 rw[cp]at hl
 refine⟨⟨this.1,by omega⟩,by rw[this.2.1,gm],this.2.2.1,?_⟩
 rw[cp,du];omega
 simp only[ju,Bool.or_eq_true,decide_eq_true_eq]at e ⊢
 rw[cp,du]
 cases hb:g.bad with
 | true=>
  rcases s.bad hb with h1|h1
  exact .inl (.inl h1)
  exact .inr (by omega)
 | false=>
  have:=s.ok hb
  have hl:=congrArg List.length this.2.1
  rw[cp]at hl
  rcases e with e|e
  rw[hb]at e;cases e
  exact .inr (by omega)
theorem Sim.fold{P C}{w:Pw}: ∀{fs:List Tm} {g h:Gs},Sim P C g h→Sim P C (fs.foldl (bn w) g) (fs.foldl (bn w) h)
 | [],g,h,s=>s
 | t::fs,g,h,s=>Sim.fold (fs:=fs) (s.flag.goal:Sim P C (bn w g t) (bn w h t))
theorem Sim.end{P C g h}(s:Sim P C g h){frm:Int}{w:Pw}{to:Int}{fs:List Tm}:Sim P C (dy frm w to fs g) (dy frm w to fs h):=s.fold.path
theorem Sim.cell{la:dv}{P C g h}(s:Sim P C g h){w:Pw}{t:Tm}:Sim P C (ce la w t g) (ce la w t h):=s.flag.goal.flag.goal
theorem Sim.leaf{la:dv}{P C g h}(s:Sim P C g h){m:Sm}{w:Pw}:(bN la m w g).1=(bN la m w h).1∧Sim P C (bN la m w g).2 (bN la m w h).2:=by
 unfold bN
 split
 exact⟨Z,s.flag⟩
 split
 split
 exact⟨Z,s.cell.flag⟩
 exact⟨Z,s.cell⟩
 split
 exact⟨Z,s.cell⟩
 split
 exact⟨Z,s⟩
 split
 exact⟨Z,s.flag.goal.flag⟩
 exact⟨Z,s⟩
def Grow(g h:Gs):Prop:=g.paths.length≤h.paths.length∧(g.bad=true→h.bad=true)
theorem Grow.refl{g:Gs}:Grow g g:=⟨cQ _,id⟩
theorem Grow.trans{g h k:Gs}(a:Grow g h)(b:Grow h k):Grow g k:=⟨Nat.le_trans a.1 b.1,fun e=>b.2 (a.2 e)⟩
theorem Grow.flag{g:Gs}{b:Bool}:Grow g (g.flag b):=⟨cQ _,fun e=>by simp[Gs.flag,e]⟩
theorem Grow.goal{g:Gs}{w:Pw}{t:Tm}:Grow g (g.goal w t):=⟨cQ _,id⟩
theorem Grow.end{g:Gs}{frm:Int}{w:Pw}{to:Int}{fs:List Tm}:Grow g (dy frm w to fs g):=
  ⟨by
    have h3:=congrArg List.length (il (fs:=fs) (w:=w) (g:=g))
    simp only[dy,ju,cp,du];omega,fun e=>CP e⟩
theorem Grow.leaf{la:dv}{g:Gs}{m:Sm}{w:Pw}:Grow g (bN la m w g).2:=by
 unfold bN
 split
 exact .flag
 split
 split
 exact((Grow.flag.trans .goal).trans .flag).trans (Grow.goal.trans .flag)
 exact((Grow.flag.trans .goal).trans .flag).trans .goal
 split
 exact((Grow.flag.trans .goal).trans .flag).trans .goal
 split
 exact .refl
 split
 exact(Grow.flag.trans .goal).trans .flag
 exact .refl
theorem kP{la:dv}{E:Pe}{frm:Int}: ∀{n:Nat} {r:List Fr} {w:Pw} {g:Gs},Grow g (eM la E frm n r w g)
 | 0,r,w,g=>.refl
 | n + 1,r,w,g=>by
  cases hb:g.bad with
  | true=>rw[cT hb];exact .refl
  | false=>
   match r with
   | []=>rw[f5 hb];exact .end
   | .lp k::r=>rw[i8 hb];exact .end
   | .st (.node s a [])::r=>rw[e9 hb];exact Grow.leaf.trans kP
   | .st (.node s a [x])::r=>rw[i7 hb];exact .end
   | .st (.node s a [x,y])::r=>
    by_cases hk:s.kind=1
    rw[f3 hb hk];exact kP
    rw[i9 hb hk,dC]
    exact((Grow.flag.trans .flag).trans .flag).trans (kP.trans kP)
   | .st (.node s a (x::y::z::ks))::r=>rw[jD hb];exact Grow.leaf.trans kP
theorem Sim.grow{P C g h k}(s:Sim P C g h)(hg:g.bad=true)(a:Grow h k):Sim P C g k:=
  ⟨fun e=>absurd (hg.symm.trans e) (by decide),fun _=>(s.bad hg).imp a.2 (fun h=>by have:=a.1;omega)⟩
theorem iO{la:dv}{E:Pe}{frm:Int}{P C}: ∀{n:Nat} {r:List Fr} {w:Pw} {g h:Gs},Sim P C g h→Sim P C (eM la E frm n r w g) (eM la E frm n r w h)
 | 0,r,w,g,h,s=>s
 | n + 1,r,w,g,h,s=>by
  cases hb:g.bad with
  | true=>rw[cT hb];exact s.grow hb kP
  | false=>
   have hc:=(s.ok hb).1
   match r with
   | []=>rw[f5 hb,f5 hc];exact s.end
   | .lp k::r=>rw[i8 hb,i8 hc];exact s.end
   | .st (.node m a [])::r=>
    rw[e9 hb,e9 hc,(s.leaf (la:=la) (m:=m) (w:=w)).1]
    exact iO s.leaf.2
   | .st (.node m a [x])::r=>rw[i7 hb,i7 hc];exact s.end
   | .st (.node m a [x,y])::r=>
    by_cases hk:m.kind=1
    rw[f3 hb hk,f3 hc hk];exact iO s
    rw[i9 hb hk,i9 hc hk]
    exact iO (iO s.flag.flag.flag)
   | .st (.node m a (x::y::z::ks))::r=>
    rw[jD hb,jD hc,(s.leaf (la:=la) (m:=m) (w:=w)).1]
    exact iO s.leaf.2
theorem rR{la:dv}{E:Pe}{b:List Sm}{t:Tr}{pre:List Tm}{P C}{n:Nat}{g h:Gs}(s:Sim P C g h):Sim P C (cL la E b t pre n g) (cL la E b t pre n h):=by
 cases n with
 | zero=>rw[cL,cL];exact iO s
 | succ n=>rw[cL,cL,dC,dC,aU,aU];exact iO (iO s.flag.flag.flag)
theorem AT{E:Pe}{b:List Sm}{t:Tr}{pre:List Tm}{n:Nat}{g:Gs}:GEq (cL bD E b t pre n g) (cL bp E b t pre n g):=by
 cases n with
 | zero=>rw[cL,cL];exact kI zG .refl
 | succ n=>rw[cL,cL,dC,dC];exact kI zG (kI zG .refl)
theorem n2{la:dv}{E:Pe}{b:List Sm}{t:Tr}{pre:List Tm}{n:Nat}{g:Gs}(h:g.bad=true):cL la E b t pre n g=g:=by
 cases n with
 | zero=>rw[cL];exact cT h
 | succ n=>rw[cL,dC,aU,ne h,ne h,ne h,cT h,cT h]
def f8(p:Pm)(t:Tr):Nat→Gs
  | 0=>g0
  | i+1=>kD bD p t i (f8 p t i)
def iy(p:Pm)(t:Tr):Nat→Gs
  | 0=>g0
  | i+1=>if(iy p t i).bad=true then iy p t i else⟨(iy p t i).paths++(kD bp p t i g0).paths,(iy p t i).conds++(kD bp p t i g0).conds,(kD bp p t i g0).bad||decide (200<((iy p t i).paths++(kD bp p t i g0).paths).length)⟩
theorem zV{p:Pm}{t:Tr}: ∀n,GEq (f8 p t n) (iy p t n)∧((f8 p t n).bad=false→(f8 p t n).paths.length≤200)
 | 0=>⟨by rw[f8,iy];exact .refl,fun _=>by rw[f8];exact cG _⟩
 | n + 1=>by
  obtain⟨e,hl⟩:=zV (p:=p) (t:=t) n
  rw[f8,iy]
  cases hb:(f8 p t n).bad with
  | true=>
   rw[if_pos (by rw[←e.bad];exact hb),kD,n2 hb]
   exact⟨e,fun h=>by rw[hb]at h;cases h⟩
  | false=>
   have ha:=e.eq hb
   rw[←ha,if_neg (by rw[hb];decide)]
   have s0:Sim (f8 p t n).paths (f8 p t n).conds (f8 p t n) g0:=⟨fun _=>⟨rfl,by simp[g0],by simp[g0],hl hb⟩,fun h=>absurd (hb.symm.trans h) (by decide)⟩
   have s:=rR (la:=bD) (E:=tS p.body p.post) (b:=p.body) (t:=t) (pre:=p.pre) (n:=n) s0
   have q:=AT (E:=tS p.body p.post) (b:=p.body) (t:=t) (pre:=p.pre) (n:=n) (g:=g0)
   unfold kD
   generalize cL bD (tS p.body p.post) p.body t p.pre n (f8 p t n)=x at s ⊢
   generalize cL bD (tS p.body p.post) p.body t p.pre n g0=y at s q
   generalize cL bp (tS p.body p.post) p.body t p.pre n g0=z at q ⊢
   refine⟨?_,fun h=>(s.ok h).2.2.2⟩
   cases hc:x.bad with
   | false=>
    obtain⟨a1,a2,a3,a4⟩:=s.ok hc
    have a5:=q.eq a1
    subst a5
    rw[←a2,←a3,a1,decide_eq_false (show¬200<x.paths.length by omega)]
    have e:(⟨x.paths,x.conds,false||false⟩:Gs)=x:=by cases x;simp only at hc;subst hc;rfl
    rw[e]
    exact .refl
   | true=>
    refine .of hc ?_
    have:z.bad=true∨200<((f8 p t n).paths++z.paths).length:=by
     cases hd:y.bad with
     | true=>exact .inl (by rw[←q.bad];exact hd)
     | false=>
      have a6:=q.eq hd
      subst a6
      rcases s.bad hc with h|h
      exact .inl h
      exact .inr (by rw[cp];exact h)
    rcases this with h|h
    simp[h]
    simp only[decide_eq_true h,Bool.or_true]
theorem um{b:List Sm}{t:Tr}(hT:ci b 0=some (t,b.length)):(∃fl i,Pl b fl i [.st t])∧∀n,n<bb b b.length→(∃fl i,Pl b fl i [.st ((aY b t []).getD n default).x,.lp n])∧(∃fl i,Pl b fl i ((aY b t []).getD n default).r):=by
 have hB:=gi hT (nx:= -1) (f:=[]) (r:=[]) .nil
 refine⟨⟨_,_,hB.pl⟩,fun n hn=>?_⟩
 obtain⟨hq,hqa⟩:=mO hT hn
 obtain⟨i,_,h1,h2,h3,h4⟩:=hB.all _ hq
 rw[hqa]at h3
 exact⟨⟨_,_,h3⟩,⟨_,_,h4⟩⟩
theorem uo{la:dv}{E:Pe}{b:List Sm}{t:Tr}{pre:List Tm}(hE:EOk E b)(hT:ci b 0=some (t,b.length))(hnd:t.nodes≤30){n c:Nat}(hn:n≤bb b b.length){g:Gs}(hg:GOk c g):GOk (c+16252928) (cL la E b t pre n g):=by
 obtain⟨⟨fl,i,p0⟩,hl⟩:=um hT
 have e0:aF []=0:=rfl
 have h30:=sY
 cases n with
 | zero=>
  rw[cL]
  have hm:=cC (m:=aF [.st t]) (n:=30) (by show t.nodes+0≤30;omega)
  exact(gZ hE p0 hg).le (by omega)
 | succ n=>
  obtain⟨⟨f1,i1,p1⟩,⟨f2,i2,p2⟩⟩:=hl n (by omega)
  have hsz:=(wY hT (r:=[])).size _ (mO hT (n:=n) (by omega)).1
  have hm1:=cC (m:=aF [.st ((aY b t []).getD n default).x,.lp n]) (n:=30) (by show((aY b t []).getD n default).x.nodes+0≤30;omega)
  have hm2:=cC (m:=aF ((aY b t []).getD n default).r) (n:=30) (by omega)
  rw[cL,dC,aU]
  exact(gZ hE p2 (gZ hE p1 hg.flag.flag.flag)).le (by omega)
theorem Iu{L:Nat}(h1:4096≤L)(h2:L≤1073741824){p:Pm}{t:Tr}(ht:PtOk p t){n c:Nat}(hn:n≤bb p.body p.body.length){g:Gs}(hg:GOk c g)(hL:c+16252928≤L):MC Tryz.prog L 48 [.c (.pt 0 0 0),eI ((n:Int)-1)] (D0 p t g) (aO (.tup []) (BK p t (kD bD p t n g))):=by
 have hE:=ht.e
 have hbl:=ht.len
 have hT:=ht.tree
 have hnd:=ht.nodes
 have hP:=HK (pre:=p.pre) (post:=p.post) hT
 have hpre:=(mW ht.pre).2
 obtain⟨hp0,hl⟩:=um hT
 have e0:aF []=0:=rfl
 have h30:=sY
 have hlen:(kn t).lp.length=bb p.body p.body.length:=(oA hT).1.len
 have hnl:=gB (b:=p.body) (k:=p.body.length)
 rw[kD]
 cases n with
 | zero=>
  have hm:=cC (m:=aF [.st t]) (n:=30) (by show t.nodes+0≤30;omega)
  rw[cL]
  exact Fy h1 h2 (f:=p.pre) (t:=t) Z (by simp) (by simp;omega) Z (by omega) Z
   (zQ h1 h2 hE (by omega) hP 31 hp0 (by show t.nodes+0<31;omega) (wZ (by omega)) hg (by omega))
 | succ n=>
  obtain⟨hp1,hp2⟩:=hl n (by omega)
  obtain⟨hq,hqa⟩:=mO hT (n:=n) (by omega)
  have hat:=(wY hT (r:=[])).at_ _ hq
  have hsz:=(wY hT (r:=[])).size _ hq
  have hst:=ht.st _ (show((aY p.body t []).getD n default).a<p.body.length by omega)
  rw[←hat.2.2.2]at hst
  have htm:=lu hst
  have hf:=iN hst
  have hqe:(kn t).lp.getD n default=(aY p.body t []).getD n default:=by rw[(oA hT).2]
  obtain⟨q,hqL⟩: ∃q,(aY p.body t []).getD n default=q:=⟨_,rfl⟩
  rw[hqL]at hp1 hp2 hq hqa hat hsz hst htm hf hqe
  have hsf:(p.pre::(kn t).lp.map (·.s.facts)).getD (n+1) default=q.s.facts:=by
   rw[List.getD_cons_succ,←hqe]
   simp[List.getD_eq_getElem?_getD,show n<(kn t).lp.length by omega]
  have hm1:=cC (m:=aF [.st q.x,.lp n]) (n:=30) (by show q.x.nodes+0≤30;omega)
  have hm2:=cC (m:=aF q.r) (n:=30) (by omega)
  have e:((n+1:Nat):Int)-1=(n:Nat):=by omega
  have hw:=wZ (n:=32) (fs:=q.s.facts) (by have:=hf.2;omega)
  have h8:mA 4=(w0 q.s.facts).vars:=rfl
  rw[cL,e,hqL,h8]
  generalize hw0:w0 q.s.facts=w at hw ⊢
  obtain⟨f1,i1,p1⟩:=hp1
  have hg2:GOk c (cF w (aG q.s.sum w.vars).1 (aU w q.s.sum g)):=hg.flag.flag.flag
  have hg3:=gZ hE (la:=bD) (frm:=(n:Nat)) (n:=31) (w:=w.fact (aG q.s.sum w.vars).1) p1 hg2
  exact Fx h1 h2 (Y:=eM bD (tS p.body p.post) (n:Nat) 31 [.st q.x,.lp n]) (N:=eM bD (tS p.body p.post) (n:Nat) 31 q.r) hw0 (by omega) hqe (by simp;omega) (by simp;omega) hsf (by have:=hf.2;omega) htm.1 (by omega) (fun u g h=>cT h) (fun u g h=>cT h)
   (fun _=>zQ h1 h2 hE (by omega) hP 31 ⟨f1,i1,p1⟩ (by show q.x.nodes+0<31;omega) hw.fact hg2 (by omega))
   (fun _=>zQ h1 h2 hE (by omega) hP 31 hp2 (by omega) hw.fact hg3 (by omega))
theorem AD{p:Pm}{t:Tr}(ht:PtOk p t): ∀n,n≤bb p.body p.body.length+1→(iy p t n).conds.length≤n*16252928∧((iy p t n).bad=false→(iy p t n).paths.length≤200)∧(n<bb p.body p.body.length+1→(kD bp p t n g0).paths.length≤201∧(kD bp p t n g0).conds.length≤16252928)
 | n,hn=>by
  have key: ∀m,m≤bb p.body p.body.length→(kD bp p t m g0).paths.length≤201∧(kD bp p t m g0).conds.length≤16252928:=fun m hm=>by
   have h:=uo (la:=bp) (pre:=p.pre) ht.e ht.tree ht.nodes hm zI
   exact⟨h.paths,by have:=h.conds;rw[Nat.zero_add]at this;exact this⟩
  refine⟨?_,?_,fun h=>key n (by omega)⟩
  induction n with
  | zero=>exact cG _
  | succ n ih=>
   have:=ih (by omega)
   have k:=(key n (by omega)).2
   rw[iy];split
   exact Nat.le_trans this (Nat.mul_le_mul_right _ (Nat.le_succ n))
   simp only[cp];rw[Nat.add_mul,Nat.one_mul];exact Nat.add_le_add this k
  cases n with
  | zero=>intro _;exact cG _
  | succ n=>
   rw[iy];split
   rename_i h;intro h2;rw[h]at h2;cases h2
   intro h2
   simp only[Bool.or_eq_false_iff,decide_eq_false_iff_not]at h2
   exact Nat.le_of_not_lt h2.2
theorem Iv(ht:PtOk p t)(hL:600000000≤L):MQ h1 h2 28 [ptr p.data] [] (Plain (.tup [.c (.d (zi (if(iy p t (bb p.body p.body.length+1)).bad then[]else(iy p t (bb p.body p.body.length+1)).paths))),.c (.d (vw (if(iy p t (bb p.body p.body.length+1)).bad then[]else(iy p t (bb p.body p.body.length+1)).conds))),eB (!(iy p t (bb p.body p.body.length+1)).bad)])):=by
 refine MC.data (jB 44 h1 h2 Tryz.func28 Z fun O hF=>?_)
 have hlen:=ht.len
 have hnl:=gB (b:=p.body) (k:=p.body.length)
 have hwl:=iL (b:=p.body) (i:=p.body.length)
 refine ac (jc Z (aN (hp (bz O Z Z Z) Z (am ?_))))
 refine js Z (aN (hp (bz O Z Z Z) Z (am ?_)))
 refine js Z (jn (ae (ac (js Z (jn (ak (ap (X:=Nat) (fun i=>⟨[(0,ptr p.data),(5,.c (.rs 905 0 (iy p t i).paths.length)),(6,.c (.rs 906 0 (iy p t i).conds.length)),(7,eI ((i:Int)-1))],[(905,bU (iy p t i).paths),(906,bV (iy p t i).conds)]⟩) (fun i=>i≤(bb p.body p.body.length+1)∧(iy p t i).bad=false) (fun i=>(bb p.body p.body.length+1)-i) 0 (((c9 9 Z).trans (c9 10 Z)).trans (((aa 9 905 Z Z).trans (aa 10 906 Z Z)).trans (Ent.to ⟨Z,Z,Z,Z,tv⟩ Z))) ?_ (fun i hi=>?_))))))))
 exact⟨cG _,Z⟩
 obtain⟨hi1,hi2⟩:=hi
 obtain⟨k1,k2,k3⟩:=AD ht i hi1
 have k4:=k2 hi2
 refine ae (ac (jb Z (aj O Z Z Z Z (zS (pre:=p.pre) (post:=p.post) (b:=p.body) h1 h2 (by omega)) (ab Z) Z Z Z Z (B0:=14000) Z Z (cW Z (js Z (jn (zc Z (fun z15=>?_) (fun z15=>?_))))))))
 refine af (ae (ak (ac (jb Z ?_))))
 have hin:i≤bb p.body p.body.length:=by have:=bt z15;omega
 obtain⟨k5,k6⟩:=k3 (by omega)
 have hla:((iy p t i).paths++(kD bp p t i g0).paths).length=(iy p t i).paths.length+(kD bp p t i g0).paths.length:=cp
 refine ao O [] (bin:=[]) Z Z Z Z (show MC Tryz.prog L 52 [ptr p.data,eI ((i:Int)-1)] [] (aO (.c (.pt 0 0 0)) (kA (pP p.pre p.body p.post) (dB (av t (-1) []).1) ((i:Int)-1) (kD bp p t i g0)))from Iw (pre:=p.pre) (b:=p.body) (t:=t) (E:=tS p.body p.post) h1 h2 ht.len ht.tree ht.cok ht.nodes ht.e (mW ht.pre).2 (by omega) (n:=i) hin) Z Z Z Z Z Z (B0:=21000) Z Z (am ?_)
 refine js Z (aN (jd Z (js Z (hp (ko (own:=false) (xs:=(iy p t i).paths.map Pth.cells) (ys:=(kD bp p t i g0).paths.map Pth.cells) (zs:=((iy p t i).paths++(kD bp p t i g0).paths).map Pth.cells) (n:=((iy p t i).paths++(kD bp p t i g0).paths).length) O Z (.row Z (bA _).symm) (.whole Z (by simp) (.inr ⟨Z,Z⟩)) (by simp) Z (by simp;omega) (by simp;omega) (by simp) (by simp)) Z (am ?_)))))
 refine am ?_
 refine js Z (aN (jd Z (js Z (hp (ko (own:=false) (xs:=(iy p t i).conds.map Sq.cells) (ys:=(kD bp p t i g0).conds.map Sq.cells) (zs:=((iy p t i).conds++(kD bp p t i g0).conds).map Sq.cells) (n:=((iy p t i).conds++(kD bp p t i g0).conds).length) O Z (.row Z (bA _).symm) (.whole Z (by simp) (.inr ⟨Z,Z⟩)) (by simp) Z (by simp;omega) (by simp;omega) (by simp) (by simp)) Z (am ?_)))))
 refine am ?_
 refine js Z (aN (jd Z ?_))
 cases hb37:(kD bp p t i g0).bad with
 | true=>
  refine js Z (sk Z (sk Z (sk Z (st (aV O Z Z Z Z Z) Z (jn (zc Z (fun z41=>?_) (fun z41=>?_)))))))
  refine ac (jc Z (jr ?_))
  refine eR Z ?_
  have hbad:(iy p t (i+1)).bad=true:=by rw[iy,if_neg (by rw[hi2];decide)];simp[hb37]
  rw[tD (al:=iy p t) (fun i h=>by rw[iy,if_pos h]) hbad (n:=(bb p.body p.body.length+1)) (by have:=bt z15;omega),hbad,if_pos Z,if_pos Z]
  exact .tup (.cons (.c .nils) (.cons (.c .nils) (.cons (.c .d) .nil)))
  cases z41
 | false=>
  refine js Z (ba Z (js Z (ba Z (db Z Z (ba Z (js Z (st (aI O Z Z Z Z Z) Z (jn (zc Z (fun z41=>?_) (fun z41=>?_))))))))))
  refine ac (jc Z (jr ?_))
  refine eR Z ?_
  have hbad:(iy p t (i+1)).bad=true:=by rw[iy,if_neg (by rw[hi2];decide)];simp only[decide_eq_true (show 200<((iy p t i).paths++(kD bp p t i g0).paths).length by have:=bt z41;omega),Bool.or_true]
  rw[tD (al:=iy p t) (fun i h=>by rw[iy,if_pos h]) hbad (n:=(bb p.body p.body.length+1)) (by have:=bt z15;omega),hbad,if_pos Z,if_pos Z]
  exact .tup (.cons (.c .nils) (.cons (.c .nils) (.cons (.c .d) .nil)))
  refine af (ag (js Z (ji Z (js Z (jn ?_)))))
  refine⟨i+1,(((ah [26,32] (e':=[(0,_),(5,_),(6,_),(7,_)]) Z Z ⟨Z,Z,Z,Z,tv⟩ Z).trans (aa 26 905 Z Z)).trans (aa 32 906 Z Z)).trans (Ent.to ⟨Z,by rw[iy,if_neg (by rw[hi2];decide)];rfl,by rw[iy,if_neg (by rw[hi2];decide)];rfl,by rw[show(((i+1:Nat)):Int)-1=((i:Int)-1)+1 by omega];rfl,tv⟩ (by rw[iy,if_neg (by rw[hi2];decide)];rfl)),⟨by omega,?_⟩,by omega⟩
  rw[iy,if_neg (by rw[hi2];decide)]
  simp only[hb37,decide_eq_false (show¬200<((iy p t i).paths++(kD bp p t i g0).paths).length by have:=b9 z41;omega)];rfl
 refine aR (ac (jd Z (js Z (jr ?_))))
 refine eR Z ?_
 obtain rfl:i=(bb p.body p.body.length+1):=by have:=b9 z15;omega
 rw[hi2,if_neg (by decide),if_neg (by decide)]
 exact .tup (.cons (.c (.whole Z (bA _).symm)) (.cons (.c (.whole Z (bA _).symm)) (.cons (.c .d) .nil)))
deriving instance Inhabited,DecidableEq for Pth
theorem xx(p:Pm):gQ p=gt p:=by
 unfold gQ gt
 rw[CY]
 cases vv p.body<;>cases terms p.pre 6<;>rfl
theorem HJ{p:Pm}(hp:gQ p=true): ∃t,PtOk p t∧BI p.body=t.d:=by
 have htb:vv p.body=true:=by
  have h:=hp
  rw[xx]at h
  unfold gt at h;simp only[bC]at h;exact h.1
 obtain⟨t,g1,g2,g3⟩:=qb htb
 have hc:=ui (show cH (p.body.length+1) p.body 0=some (t,p.body.length)from g1)
 unfold gQ ku at hp
 simp only[bC,decide_eq_true_eq]at hp
 obtain⟨q1,⟨⟨⟨q2,q3⟩,q4,q5⟩,q6⟩⟩:=hp
 refine⟨t,⟨by omega,g1,hc.2.1,by have:=hc.2.2;omega,fun k hk=>?_,q1,q6⟩,g3⟩
 rw[aw hk]
 exact List.all_eq_true.1 q4 _ (List.getElem_mem hk)
theorem ED{p:Pm}{t:Tr}(ht:PtOk p t):(p.pre::(kn t).lp.map (·.s.facts)).length=bb p.body p.body.length+1:=by
 have:(kn t).lp.length=bb p.body p.body.length:=(oA ht.tree).1.len
 rw[dW,bA,this]
theorem IS{L:Nat}(h1:4096≤L)(h2:L≤1073741824)(hL:600000000≤L){p:Pm}{t:Tr}(ht:PtOk p t):MC Tryz.prog L 47 [.c (.pt 0 0 0),eB true,eI 0,.c (.fb 48 [.pt 0 0 0])] (D0 p t g0) (aO (eB (!(f8 p t (bb p.body p.body.length+1)).bad)) (BK p t (f8 p t (bb p.body p.body.length+1)))):=by
 have hl:=ED ht
 have hnl:=gB (b:=p.body) (k:=p.body.length)
 have hlen:=ht.len
 have hst: ∀i,(f8 p t i).bad=true→f8 p t (i+1)=f8 p t i:=fun i h=>by rw[f8,kD,n2 h]
 have hok: ∀i,i≤bb p.body p.body.length+1→GOk (i*16252928) (f8 p t i):=fun i hi=>by
  induction i with
  | zero=>rw[f8];exact zI.le (cG _)
  | succ i ih=>
    rw[f8,kD]
    exact(uo ht.e ht.tree ht.nodes (by omega) (ih (by omega))).le (by omega)
 have:=Fz (p:=p) (t:=t) (k:=0) (al:=f8 p t) h1 h2 (by omega) hst Z (fun i hi hb=>by
  rw[f8]
  exact Iu h1 h2 ht (by omega) (hok i (by omega)) (by omega))
 rw[hl]at this
 exact this
end Go.Al
