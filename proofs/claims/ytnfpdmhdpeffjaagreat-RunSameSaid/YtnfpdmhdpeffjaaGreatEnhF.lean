import Derived.Test.YtnfpdmhdpeffjaaGreatEnhA
set_option linter.unusedSimpArgs false
set_option linter.unusedVariables false
namespace Go.Proofs.Zz
noncomputable section
open Go
def hZ (bod:Nat→Option Code):Nat→Code→Prop
 | b,.seq x y=>hZ bod b x∧hZ bod b y
 | b,.cond _ x y=>hZ bod b x∧hZ bod b y
 | _,.block id x=>hZ bod id x
 | b,.loop x=>bod b=some x
 | _,_=>True
def h7d (C:Frm) (l:LS) (nt:Nat) (q:Rs) (e:Exit) (a:Act) (w:World):Prop :=
 e=(match (motive:=Nat→Exit) q.1 with | 0=>.ret | i+1=>.exit i)∧a.tmps.size=nt∧a.defers=[] ∧
 ∃sg β F fs,bT l.x q.1=some sg∧SigIn sg β F w q.2 fs a.tmps.toList∧Enter C F w sg.bx.length β fs
def h7t (P:Program) (nt nb:Nat) (l:LS) (body:Code) (p:List DV) (q:Rs):Prop :=
 ∀(C:Frm) (a:Act) (w:World) (β:Nat→EI) (F:Nat→Prop) (es:List EI),C.nb=nb→SigIn l.h β F w p es a.tmps.toList→Enter C F w l.h.bx.length β es→a.tmps.size=nt→a.defers=[] →
  (Code.loop body).wp P (h7d C l nt q) a w
def h8E (C:Frm) (l:LS) (nt key:Nat) (q:Rs) (e:Exit) (a:Act) (w:World):Prop :=
 (e=.normal∧q.1=key+1∨e=(match (motive:=Nat→Exit) q.1 with | 0=>.ret | i+1=>.exit i)∧q.1≠key+1)∧a.tmps.size=nt∧a.defers=[] ∧
 ∃sg β F fs,bT l.x q.1=some sg∧SigIn sg β F w q.2 fs a.tmps.toList∧Enter C F w sg.bx.length β fs
def h8i (P:Program) (nt nb:Nat) (l:LS) (key:Nat) (code:Code) (p:List DV) (q:Rs):Prop :=
 ∀(C:Frm) (a:Act) (w:World) (β:Nat→EI) (F:Nat→Prop) (es:List EI),C.nb=nb→SigIn l.h β F w p es a.tmps.toList→Enter C F w l.h.bx.length β es→a.tmps.size=nt→a.defers=[] →
  code.wp P (h8E C l nt key q) a w
structure Bod where
 lp:Nat→Option Code
 bk:Nat→Option (Nat × Code)
def blocks:Nat→Code→List (Nat × (Nat × Code))
 | b,.seq x y=>match x with
  | .region id _ _=>(id+h8s,(b,.seq x y))::(blocks b x++blocks b y)
  | _=>blocks b x++blocks b y
 | b,.cond _ x y=>blocks b x++blocks b y
 | b,.block id x=>(id,(b,.block id x))::blocks id x
 | b,.region id ops draw=>[(id+told,(b,.region id ops draw))]
 | b,.loop x=>blocks b x
 | _,_=>[]
def h7r (bk:Nat→Option (Nat × Code)) (b:Nat) (c:Code):Prop:=∀p∈blocks b c,bk p.1=some p.2
theorem c2E {b:Nat} {x y:Code} {p:Nat × (Nat × Code)} (h:p∈blocks b x∨p∈blocks b y):p∈blocks b (.seq x y):=by
 unfold blocks;split
 ·exact nG _ (mM.2 h)
 ·exact mM.2 h
theorem e1a {js:List Nat} {x:Code} {key:Nat} (h:h8D js x=some key):memN key js=true∧∃id ops draw,x=.region id ops draw∧key=id+h8s:=by
 unfold h8D at h;split at h
 ·
  rename_i id ops draw;split at h
  ·
   rename_i hm;simp only[mB]at h;subst h;exact⟨hm,id,ops,draw,rfl,rfl⟩
  ·simp at h
 ·simp at h
def LTok (P:Program) (hi:Hi) (bod:Bod) (nt nb:Nat) (lt:LT):Prop :=
 (∀b l body p K r,memN b hi.js=false→bT hi.ls b=some l→bod.lp b=some body→lt b p K=some r→∃q,h7t P nt nb l body p q∧K q=some r) ∧
 (∀b l body p K r,memN b hi.js=true→bT hi.ls b=some l→bod.bk b=some body→lt b p K=some r→∃q,h8i P nt nb l b body.2 p q∧K q=some r)
section
variable {P:Program} {ok:Nat→List DV→List DV→Prop} {cx:Cx} {hi:Hi} {ct:CT} {lt:LT} {bod:Bod} {nt:Nat} {C:Frm}
theorem d9h (hct:CTok ok ct) (hti:TIok P cx) (hok:∀rg ix c,fc hi.cs rg ix=some c→∀p q,ok c.id p q→eM P c p q) (hmix:P.follows .mixedOrders=true) (hlt:LTok P hi bod nt C.nb lt) :
  ∀(code:Code) (b:Nat) (s:St) (kn:St→Option Rs) (ke:Nat→St→Option Rs) (kr:St→Option Rs) (r:Rs) (a:Act) (w:World) (Q:Exit→Act→World→Prop),hZ bod.lp b code→h7r bod.bk b code →
  run cx hi ct lt nt C.nb b code s kn ke kr=some r→Rel C (λk=>k<s.nx) s a w →
  (∀s' a' w',kn s'=some r→Rel C (λk=>k<s'.nx) s' a' w'→Q .normal a' w') →
  (∀i s' a' w',ke i s'=some r→Rel C (λk=>k<s'.nx) s' a' w'→Q (.exit i) a' w') →
  (∀s' a' w',kr s'=some r→Rel C (λk=>k<s'.nx) s' a' w'→Q .ret a' w')→code.wp P Q a w:=by
 intro code;induction code with
 | skip=>intro b s kn ke kr r a w Q hl hB h hr hn he hq; exact wp_skip (hn s a w h hr)
 | seq x y ihx ihy =>
  intro b s kn ke kr r a w Q hl hB h hr hn he hq;simp only[run]at h;split at h
  ·
   refine wp_seq (ihx b s _ ke kr r a w _ hl.1 (λp hp=>hB p (c2E (.inl hp))) h hr (λs' a' w' h' hr'=>?_) he hq);exact ihy b s' kn ke kr r a' w' Q hl.2 (λp hp=>hB p (c2E (.inr hp))) h' hr' hn he hq
  ·
   rename_i key htl;obtain⟨hjs,id,ops,draw,hx,hkey⟩:=e1a htl;split at h
   ·simp at h
   ·
    rename_i l hls;obtain⟨p,β,G,es,h1,h2,h3,h4,h5⟩:=i6 hct h hr;obtain⟨q,g1,g2⟩:=hlt.2 key l (b,.seq x y) p _ r hjs hls (hB (key,(b,.seq x y)) (by subst hx; subst hkey; simp[blocks])) h1;refine wp_mono (g1 C a w β G es rfl h2 h3 h4 h5) λe a' w' hpost=>?_
    obtain⟨k1,k2,k3,sg,β',F',fs,k4,k5,k6⟩:=hpost;rw[k4]at g2;simp only at g2;split at g2
    ·simp at g2
    ·
     rename_i s' hs';obtain⟨m1,m2⟩:=j6 (rest:=[]) k5 k6 hs' (by simp) k2 k3;rcases k1 with⟨rfl,hq1⟩ | ⟨k1,hq1⟩
     ·
      rw[hq1]at g2;simp only[pA]at g2;exact hn s' a' w' g2 m2
     ·
      cases hq2:q.1 with
      | zero=>rw[hq2]at k1 g2; subst k1; exact hq s' a' w' g2 m2
      | succ i =>
       rw[hq2]at k1 g2 hq1;subst k1;simp only at g2;split at g2
       ·
        rename_i hi';have:=mH hi';exact absurd (by rw[this]) hq1
       ·exact he i s' a' w' g2 m2
 | region id ops draw =>
  intro b s kn ke kr r a w Q hl hB h hr hn he hq;simp only[run]at h;split at h
  ·exact e3g hct hmix (e9f hti hok C Q id ops s.nx) h hr (λs' a' w' h' hr'=>hn s' a' w' (by rwa [e9d]at h') hr')
  ·
   rename_i hjs;split at h
   ·simp at h
   ·
    rename_i l hls;obtain⟨p,β,G,es,h1,h2,h3,h4,h5⟩:=i6 hct h hr;obtain⟨q,g1,g2⟩:=hlt.2 (id+told) l (b,.region id ops draw) p _ r hjs hls (hB (id+told,(b,.region id ops draw)) (by simp[blocks])) h1;refine wp_mono (g1 C a w β G es rfl h2 h3 h4 h5) λe a' w' hpost=>?_
    obtain⟨k1,k2,k3,sg,β',F',fs,k4,k5,k6⟩:=hpost;rw[k4]at g2;simp only at g2;split at g2
    ·simp at g2
    ·
     rename_i s' hs';obtain⟨m1,m2⟩:=j6 (rest:=[]) k5 k6 hs' (by simp) k2 k3;rcases k1 with⟨rfl,hq1⟩ | ⟨k1,hq1⟩
     ·
      rw[hq1]at g2;simp only[pA]at g2;exact hn s' a' w' g2 m2
     ·
      cases hq2:q.1 with
      | zero=>rw[hq2]at k1 g2; subst k1; exact hq s' a' w' g2 m2
      | succ i =>
       rw[hq2]at k1 g2 hq1;subst k1;simp only at g2;split at g2
       ·
        rename_i hi';have:=mH hi';exact absurd (by rw[this]) hq1
       ·exact he i s' a' w' g2 m2
 | cond c x y ihx ihy =>
  intro b s kn ke kr r a w Q hl hB h hr hn he hq;simp only[run]at h;obtain⟨v,rd,h1,h2⟩:=c1j hct h;have hr':=hr;obtain⟨E,F,hm,ht⟩:=hr;obtain⟨X,h3,h4⟩:=db ⟨rd,h1⟩ ht;have:=h4.ret;subst this;split at h2
  ·
   rename_i t;have hb:=c8U h3;split at h2
   ·exact wp_cond_true hb (ihx b s kn ke kr r a w Q hl.1 (λp hp=>hB p (by simp[blocks,hp])) h2 hr' hn he hq)
   ·exact wp_cond_false hb (ihy b s kn ke kr r a w Q hl.2 (λp hp=>hB p (by simp[blocks,hp])) h2 hr' hn he hq)
  ·simp at h2
 | block id x ih =>
  intro b s kn ke kr r a w Q hl hB h hr hn he hq;simp only[run]at h;split at h
  ·
   refine wp_block (ih id s kn _ kr r a w _ hl (λp hp=>hB p (by simp[blocks,hp])) h hr hn (λi s' a' w' h' hr'=>?_) hq);simp only[Exit.inBlock];split at h'
   ·
    rename_i hi';rw[if_pos (mH hi')];exact hn s' a' w' h' hr'
   ·
    rename_i hi';rw[if_neg (λe=>by subst e; simp at hi')];exact he i s' a' w' h' hr'
  ·
   rename_i hjs;split at h
   ·simp at h
   ·
    rename_i l hls;obtain⟨p,β,G,es,h1,h2,h3,h4,h5⟩:=i6 hct h hr;obtain⟨q,g1,g2⟩:=hlt.2 id l (b,.block id x) p _ r hjs hls (hB (id,(b,.block id x)) (by simp[blocks])) h1;refine wp_mono (g1 C a w β G es rfl h2 h3 h4 h5) λe a' w' hpost=>?_
    obtain⟨k1,k2,k3,sg,β',F',fs,k4,k5,k6⟩:=hpost;rw[k4]at g2;simp only at g2;split at g2
    ·simp at g2
    ·
     rename_i s' hs';obtain⟨m1,m2⟩:=j6 (rest:=[]) k5 k6 hs' (by simp) k2 k3;rcases k1 with⟨rfl,hq1⟩ | ⟨k1,hq1⟩
     ·
      rw[hq1]at g2;simp only[pA]at g2;exact hn s' a' w' g2 m2
     ·
      cases hq2:q.1 with
      | zero=>rw[hq2]at k1 g2; subst k1; exact hq s' a' w' g2 m2
      | succ i =>
       rw[hq2]at k1 g2 hq1;subst k1;simp only at g2;split at g2
       ·
        rename_i hi';have:=mH hi';exact absurd (by rw[this]) hq1
       ·exact he i s' a' w' g2 m2
 | loop x ih =>
  intro b s kn ke kr r a w Q hl hB h hr hn he hq;simp only[run]at h;split at h
  ·simp at h
  rename_i hjs;split at h
  ·simp at h
  ·
   rename_i l hls;obtain⟨p,β,G,es,h1,h2,h3,h4,h5⟩:=i6 hct h hr;obtain⟨q,g1,g2⟩:=hlt.1 b l x p _ r hjs hls hl h1;refine wp_mono (g1 C a w β G es rfl h2 h3 h4 h5) λe a' w' hpost=>?_
   obtain⟨k1,k2,k3,sg,β',F',fs,k4,k5,k6⟩:=hpost;rw[k4]at g2;simp only at g2;split at g2
   ·simp at g2
   ·
    rename_i s' hs';obtain⟨m1,m2⟩:=j6 (rest:=[]) k5 k6 hs' (by simp) k2 k3;cases hq1:q.1 with
    | zero=>rw[hq1]at k1 g2; subst k1; exact hq s' a' w' g2 m2
    | succ i=>rw[hq1]at k1 g2; subst k1; exact he i s' a' w' g2 m2
 | exit id=>intro b s kn ke kr r a w Q hl hB h hr hn he hq; exact wp_exit (he id s a w h hr)
 | ret=>intro b s kn ke kr r a w Q hl hB h hr hn he hq; exact wp_ret (hq s a w h hr)
 | _=>intro b s kn ke kr r a w Q hl hB h hr hn he hq; simp[run]at h
theorem e7a (hct:CTok ok ct) (hti:TIok P cx) (hok:∀rg ix c,fc hi.cs rg ix=some c→∀p q,ok c.id p q→eM P c p q) (hmix:P.follows .mixedOrders=true) {nb:Nat} (hlt:LTok P hi bod nt nb lt)
  {b:Nat} {l:LS} {body:Code} (hls:bT hi.ls b=some l) (hb:hZ bod.lp b body) (hB:h7r bod.bk b body) {n:Nat} {p:List DV} {q:Rs} (h:iter (round cx hi ct lt nt nb b l body) n p=some q):h7t P nt nb l body p q:=by
 intro C a w β F es hC hs he hsz hd;subst hC;refine c4F (λn a w=>∃p β F es,iter (round cx hi ct lt nt C.nb b l body) n p=some q∧SigIn l.h β F w p es a.tmps.toList∧Enter C F w l.h.bx.length β es∧a.tmps.size=nt∧a.defers=[])
  (n:=n) ⟨p,β,F,es,h,hs,he,hsz,hd⟩ ?_
 rintro n a w ⟨p,β,F,es,h,hs,he,hsz,hd⟩
 cases n with
 | zero=>simp[iter]at h
 | succ n =>
  simp only[iter,round]at h;split at h
  ·simp at h
  ·
   rename_i s0 hs0;obtain⟨m1,m2⟩:=j6 (rest:=[]) hs he hs0 (by simp) hsz hd;refine d9h hct hti hok hmix hlt body b s0 _ _ _ q a w _ hb hB h m2 (λs' a' w' h' hr'=>?_) (λi s' a' w' h' hr'=>?_) (λs' a' w' h' hr'=>?_)
   ·
    obtain⟨p',β',G',es',k1,k2,k3,k4,k5⟩:=i6 hct h' hr';exact⟨n,Nat.lt_succ_self n,p',β',G',es',k1,k2,k3,k4,k5⟩
   ·
    split at h'
    ·simp at h'
    ·
     rename_i sg hsg;obtain⟨p',β',G',es',k1,k2,k3,k4,k5⟩:=i6 hct h' hr';simp only[mB]at k1;subst k1;exact⟨rfl,k4,k5,sg,β',G',es',hsg,k2,k3⟩
   ·
    split at h'
    ·simp at h'
    ·
     rename_i sg hsg;obtain⟨p',β',G',es',k1,k2,k3,k4,k5⟩:=i6 hct h' hr';simp only[mB]at k1;subst k1;exact⟨rfl,k4,k5,sg,β',G',es',hsg,k2,k3⟩
end
section
variable {P:Program} {ok:Nat→List DV→List DV→Prop} {cx:Cx} {hi:Hi} {ct:CT} {lt:LT} {bod:Bod} {C:Frm} {A:Nat→Prop} {E:Env} {F:Nat→Prop} {s:St} {a:Act} {w:World} {α:Type} {r:α}
def getR (tmps:Array Value):ResultVar→Sem Value
 | .tmp t=>pure (tmps.getD t undef)
 | .cell b t=>do loadVar t (← asAddr (tmps.getD b undef))
theorem c2L (hti:TIok P cx) (hm:Mem C A E F s.ob w) (ht:Tms E F s.tm a w):∀{rv:List ResultVar} {k:List V→Rd α},Ev ok (results cx rv k) s r →
  ∃(xs:List V) (vs:List Value),All2 (RepV E F w) xs vs∧Ev ok (k xs) s r∧(rv.mapM (getR a.tmps)).run P w=.ok vs w∧vs.length=rv.length
 | [],k,h=>⟨[],[],trivial,h,by simp,rfl⟩
 | .tmp t::rv,k,h=>by
  simp only[results]at h;have h:=h.get;simp only[look]at h;obtain⟨xs,vs,h1,h2,h3,h4⟩:=c2L hti hm ht h;refine⟨_::xs,_::vs,⟨ht.at_ t,h1⟩,h2,?_,by simp[h4]⟩
  simp only[qN,getR,Sem.run_bind,Sem.run_pure,Result.andThen_ok,h3]
 | .cell b t::rv,k,h=>by
  simp only[results]at h;obtain⟨i,hi',h⟩:=Cx.t_ev h;have hT:=hti t i hi';have h:=h.get;simp only[look]at h;split at h
  ·
   rename_i n l y hb;simp only[Cn.v.injEq]at hb;have hv:=ht.at_ b;rw[hb]at hv;obtain⟨_,p1,p2,p3⟩:=hv;simp only[mK,and_true]at p2;obtain⟨ls,g1,g2,g3⟩:=c6S _ _ h;split at g2
   ·
    rename_i v hz hv;obtain⟨c,q1,q2⟩:=d3a hm g1 g3;obtain⟨x,k1,k2⟩:=e2B (P:=P) hT q1 q2 hz hv;obtain⟨xs,vs,h1,h2,h3,h4⟩:=c2L hti hm ht g2;refine⟨_::xs,x::vs,⟨k2,h1⟩,h2,?_,by simp[h4]⟩
    have k1':(loadVar t ⟨(E.e n).blk,(E.e n).loff l,none⟩).run P w=.ok x w:=by
     simpa[Instr.loadAt,Instr.sureAddr] using k1
    simp only[qN,getR,Sem.run_bind,Sem.run_pure,Result.andThen_ok,h3,p2,asAddr,k1']
   ·exact g2.fail.elim
  ·exact h.fail.elim
theorem RepBs.nf {β:Nat→EI} {G:Nat→Prop}:∀{kss:List (List LK)} {j:Nat} {p:List DV} {es:List EI},RepBs β G w kss j p es→∀i,i<kss.length→¬G (β (j+i)).blk
 | [],j,p,es,h,i,hi=>by simp at hi
 | ks::r,j,p,es,h,i,hi=>by
  obtain⟨p1,p2,e1,e2,cs,t,_,_,_,_,h3,_,h5⟩:=h.inv;cases i with
  | zero=>exact h3
  | succ i =>
   have:=RepBs.nf h5 i (by simpa using hi)
   rwa [show j+1+i=j+(i+1) by omega]at this
theorem e1f (fn:Func) (tmps:Array Value):Go.results fn tmps=(do
  let vs ← fn.results.mapM (getR tmps)
  pure (if h:vs.size=1 then vs[0] else .tuple vs)):=by
 unfold Go.results;congr 1
theorem d7U {fn:Func} {tmps:Array Value} {vs:List Value} (h:(fn.results.toList.mapM (getR tmps)).run P w=.ok vs w) :
  (Go.results fn tmps).run P w=.ok (match Nat.beq vs.length 1 with | true=>vs.headD undef | false=>.tuple vs.toArray) w:=by
 rw[e1f,Array.mapM_eq_mapM_toList];simp only[Sem.run_bind,Sem.run_map,h,Result.andThen_ok,Sem.run_pure]
 match vs with
 | []=>simp
 | [v]=>simp
 | u::v::r=>simp; rfl
theorem c1d (hct:CTok ok ct) (hti:TIok P cx) {cs:CS} {fn:Func} {r0 q:List DV} {β:Nat→EI} {es:List EI} (hcl:cs.ob.length=cs.i.bx.length) (hone:cs.one=Nat.beq fn.results.size 1) (hrl:cs.r.length=fn.results.size) {n0:Nat}
  (hC:C=⟨ownB cs.i.bx.length β es,F,w,cs.i.bx.length,β⟩) {s':St} {a':Act} {w':World}
  (h:jK cx ct fn.results.toList cs.i.bx.length cs.r cs.ob s'=some (n0,q)) (hr:Rel C (λk=>k<s'.nx) s' a' w') :
  a'.defers=[]∧∃v,(Go.results fn a'.tmps).run P w'=.ok v w'∧∃F' fs,h7Q cs β F w es q v w' F' fs:=by
 unfold jK at h;obtain⟨x,rd,h1,h2⟩:=c1j hct h;simp only[mB,mb]at h2;obtain⟨_,rfl⟩:=h2;obtain⟨E',F',hm,ht⟩:=hr;obtain⟨xs,vs,k1,k2,k3,k4⟩:=c2L hti hm ht ⟨rd,h1⟩;have hnb:C.nb=cs.i.bx.length:=by rw[hC]
 obtain⟨p,es',bs,tk,bw,g1,g2⟩:=e2R k2 hm ((c2G hm cs.i.bx.length (by rw[hnb]; exact mG _)).append k1);obtain⟨rfl,g3,g4⟩:=e2p g1;have he:=g2.enter hm (by rw[hnb]; exact g3) (λj hj=>g4 j (by rw[← hnb]; exact hj));have hs:=SigIn.strip (sg:=⟨cs.r,cs.ob⟩) (nb:=cs.i.bx.length) g2.sig (by simp[b4I]);have hβ:∀j,j<cs.i.bx.length→E'.e (nthD 0 bs j)=β j:=λj hj=>by
  have:=he.e0 j (by rw[hnb]; exact hj);rw[hC]at this;exact this
 have hvl:vs.length=cs.r.length:=by rw[k4,hrl]; simp
 obtain⟨p1,p2,e1,e2,rfl,rfl,hA,hB⟩:=hs.ex;have hO:∀b,C.O b↔ownB cs.i.bx.length β es b:=λb=>by rw[hC]
 have hw0:C.w0=w:=by rw[hC]
 have hF0:C.F0=F:=by rw[hC]
 refine⟨ht.df,(match cs.one with | true=>vs.headD undef | false=>.tuple vs.toArray),?_,_,e1++e2,⟨⟨_,p1,p2,e1,e2,vs,hβ,rfl,rfl,hA,hvl,?_,hB⟩,?_,?_,?_,?_,?_,he.fb,?_,?_,?_,hs.ed,?_,hs.ef,?_⟩⟩
 ·
  have hsz:fn.results.size=vs.length:=by rw[k4]; simp
  rw[hone,hsz];exact d7U k3
 ·
  cases h1:cs.one with
  | true =>
   rw[hone]at h1;have:=mH h1;rw[← hrl,← hvl]at this
   match vs,this with
   | [v],_=>rfl
  | false=>rfl
 ·have:=he.sz; rw[hw0]at this; exact this
 ·have:=he.os; rw[hw0]at this; exact this
 ·have:=he.tape; rw[hw0]at this; exact this
 ·have:=he.output; rw[hw0]at this; exact this
 ·intro b hb; exact he.f0 b (by rw[hF0]; exact hb)
 ·
  intro b hb;have:=he.uf b hb;rw[hO,hw0,hF0]at this; exact this
 ·
  intro b hb ho;have:=he.kp b (by rw[hw0]; exact hb) (by rw[hO]; exact ho);rw[hw0]at this; exact this
 ·
  intro j hj;have:=RepBs.nf hB j (by rw[hcl]; exact hj);rw[ml,hβ j hj]at this; exact this
 ·
  intro j hj e h1 h2;have:=hs.be j (by rw[hcl]; exact hj) e h1 h2;rw[hβ j hj]at this; exact this
 ·
  intro e h1 h2;have:=he.uo e.blk (.inr ⟨e,h1,h2,rfl⟩);rw[hO,hw0]at this; exact this
theorem e8e (hct:CTok ok ct) (hti:TIok P cx) (hok:∀rg ix c,fc hi.cs rg ix=some c→∀p q,ok c.id p q→eM P c p q) (hmix:P.follows .mixedOrders=true) {cs:CS} {fn:Func} {code:Code} (hf:P.funcs[cs.fn]?=some fn) (hb:fn.body=some code)
  (hcf:∀args w,(callFunc cs.fn args).run P w=.ok (.enter cs.fn args) w) (hone:cs.one=Nat.beq fn.results.size 1) (hrl:cs.r.length=fn.results.size)
  (hlt:LTok P hi bod fn.ntmps cs.i.bx.length lt) (hl:hZ bod.lp 0 code) (hB:h7r bod.bk 0 code) {p q:List DV} {n0:Nat} (h:den cx hi ct lt fn code cs.i cs.r cs.ob p=some (n0,q)):eM P cs p q:=by
 refine⟨hcf,λβ F w es vs hfb hvl hs=>?_,λt ht=>?_⟩
 rotate_left
 ·
  unfold den at h;have hn:mkSt cs.i fn.ntmps p=none:=by
   unfold mkSt;rw[ht];rfl
  rw[hn]at h;simp at h
 unfold den at h;split at h
 ·
  rename_i s0 hs0 hck;simp only[mE,qB,nk]at hck;have he:Enter ⟨ownB cs.i.bx.length β es,F,w,cs.i.bx.length,β⟩ F w cs.i.bx.length β es :=
   ⟨hfb,λ_ h=>h,λ_ _ _=>rfl,λ_ h=>.inl h,λ_ h=>.inl h,mG _,rfl,rfl,rfl,mG _,λ_ _=>rfl⟩
  have hsz:(vs.toArray++Array.replicate (fn.ntmps-vs.toArray.size) undef).size=fn.ntmps:=by simp; omega
  obtain⟨m1,m2⟩:=j6 (rest:=List.replicate (fn.ntmps-vs.toArray.size) undef) hs he hs0 (a:={tmps:=vs.toArray++Array.replicate (fn.ntmps-vs.toArray.size) undef,defers:=[]}) (by simp) hsz rfl;refine calls_of_wp hf hb ?_;refine d9h (C:=⟨ownB cs.i.bx.length β es,F,w,cs.i.bx.length,β⟩) hct hti hok hmix hlt code 0 s0 _ _ _ (n0,q) _ w _ hl hB h m2 (λs' a' w' h' hr'=>?_) (λi s' a' w' h' hr'=>by simp at h') (λs' a' w' h' hr'=>?_)
  ·
   obtain⟨g1,v,g2,F',fs,g3⟩:=c1d (r0:=p) hct hti hck.2 hone hrl rfl h' hr';exact⟨g1,v,g2,v,F',fs,rfl,g3⟩
  ·
   obtain⟨g1,v,g2,F',fs,g3⟩:=c1d (r0:=p) hct hti hck.2 hone hrl rfl h' hr';exact⟨g1,v,g2,v,F',fs,rfl,g3⟩
 ·simp at h
end
def jo (P:Program):List (Option TI)→Nat→Bool
 | [],_=>true
 | some i::r,n=>match tchk P n i with
  | true=>jo P r (n+1)
  | false=>false
 | none::r,n=>jo P r (n+1)
theorem c8Y {P:Program}:∀{l:List (Option TI)} {n:Nat},jo P l n=true→∀t i,nthD none l t=some i→TOk P (n+t) i
 | [],n,_,t,i,h=>by simp[nthD]at h
 | none::r,n,hc,0,i,h=>by simp[nthD]at h
 | some j::r,n,hc,0,i,h=>by
  simp only[nthD,mB]at h;subst h;simp only[jo]at hc;split at hc
  ·rename_i hj; exact e3Q hj
  ·simp at hc
 | none::r,n,hc,t+1,i,h=>by
  have:=c8Y (n:=n+1) (l:=r) (by simpa[jo] using hc) t i (by simpa[nthD] using h)
  rwa [show n+1+t=n+(t+1) by omega]at this
 | some j::r,n,hc,t+1,i,h=>by
  simp only[jo]at hc;split at hc
  ·
   have:=c8Y (n:=n+1) (l:=r) hc t i (by simpa[nthD] using h)
   rwa [show n+1+t=n+(t+1) by omega]at this
  ·simp at hc
theorem e4v {P:Program} {l:List (Option TI)} (h:jo P l 0=true):TIok P {ti:=λt=>nthD none l t}:=λt i hi=>by
 have:=c8Y h t i hi
 rwa [ml]at this
theorem c7x {P : Program} {f : FuncId} {fn : Func} (hf : P.funcs[f]? = some fn) (hn : (fn.name == "runtime.NumGoroutine") = false) (hb : fn.body.isNone = false) (args : Array Value) (w : World) :
  (callFunc f args).run P w=.ok (.enter f args) w:=by
 have hp:(program).run P w=.ok P w:=rfl;unfold callFunc;simp only[Sem.run_bind,hp,Result.andThen_ok,hf,hn,hb,mN,if_false,Sem.run_pure]
def loops:Nat→Code→List (Nat × Code)
 | b,.seq x y=>loops b x++loops b y
 | b,.cond _ x y=>loops b x++loops b y
 | _,.block id x=>loops id x
 | b,.loop x=>(b,x)::loops b x
 | _,_=>[]
theorem d2C {bod:Nat→Option Code}:∀(code:Code) (b:Nat),(∀p∈loops b code,bod p.1=some p.2)→hZ bod b code:=by
 intro code;induction code with
 | seq x y ihx ihy=>intro b h; exact⟨ihx b λp hp=>h p (by simp[loops,hp]),ihy b λp hp=>h p (by simp[loops,hp])⟩
 | cond c x y ihx ihy=>intro b h; exact⟨ihx b λp hp=>h p (by simp[loops,hp]),ihy b λp hp=>h p (by simp[loops,hp])⟩
 | block id x ih=>intro b h; exact ih id λp hp=>h p (by simpa[loops] using hp)
 | loop x ih=>intro b h; exact h (b,x) (by simp[loops])
 | _=>intro b h; trivial
def fsts {α:Type}:List (Nat × α)→List Nat
 | []=>[]
 | p::r=>p.1::fsts r
theorem b2A {α : Type} : ∀ {l : List (Nat × α)}, kG (fsts l) = true → ∀ p ∈ l, bT l p.1 = some p.2
  | [], _, p, h => by simp at h
  | q :: r, hd, p, h => by
    simp only [fsts, kG] at hd
    split at hd
    · simp at hd
    · rename_i hm
      have hm := b8a.1 hm
      simp only [bT]
      rcases mV.1 h with rfl | h
      · simp
      · have hne : q.1 ≠ p.1 := by
          intro e
          apply hm
          rw [e]
          have key : ∀ (l : List (Nat × α)) (p : Nat × α), p ∈ l → p.1 ∈ fsts l := by
            intro l
            induction l with
            | nil => intro p h; simp at h
            | cons x y ih =>
              intro p h
              rcases mV.1 h with rfl | h
              · simp [fsts]
              · simp [fsts, ih p h]
          exact key r p h
        split
        · rename_i e; exact (hne (mH e)).elim
        · exact b2A hd p h
theorem e0z {code:Code} (h:kG (fsts (loops 0 code))=true):hZ (λb=>bT (loops 0 code) b) 0 code:=d2C code 0 (b2A h)
theorem e2k:∀(code:Code) (b:Nat) (q:Nat × Code),q∈loops b code→∀p∈loops q.1 q.2,p∈loops b code:=by
 intro code;induction code with
 | seq x y ihx ihy =>
  intro b q hq p hp;simp only[loops,mM]at hq ⊢;exact hq.imp (λh=>ihx b q h p hp) (λh=>ihy b q h p hp)
 | cond c x y ihx ihy =>
  intro b q hq p hp;simp only[loops,mM]at hq ⊢;exact hq.imp (λh=>ihx b q h p hp) (λh=>ihy b q h p hp)
 | block id x ih=>intro b q hq p hp; exact ih id q hq p hp
 | loop x ih =>
  intro b q hq p hp;simp only[loops,mV]at hq ⊢;rcases hq with rfl | hq
  ·exact .inr hp
  ·exact .inr (ih b q hq p hp)
 | _=>intro b q hq; simp[loops]at hq
theorem c5A {code:Code} (h:kG (fsts (loops 0 code))=true) {b:Nat} {x:Code} (hb:bT (loops 0 code) b=some x):hZ (λb=>bT (loops 0 code) b) b x:=by
 have hm:(b,x)∈loops 0 code:=by
  have key:∀l:List (Nat × Code),bT l b=some x→(b,x)∈l:=by
   intro l;induction l with
   | nil=>intro h; simp[bT]at h
   | cons p r ih =>
    intro h;simp only[bT]at h;split at h
    ·
     rename_i e;simp only[mB]at h;have:=mH e;subst this; subst h;simp
    ·simp[ih h]
  exact key _ hb
 exact d2C x b λp hp=>b2A h p (e2k code 0 (b,x) hm p hp)
theorem e3R {α:Type} {b:Nat} {x:α}:∀l:List (Nat × α),bT l b=some x→(b,x)∈l:=by
 intro l;induction l with
 | nil=>intro h; simp[bT]at h
 | cons p r ih =>
  intro h;simp only[bT]at h;split at h
  ·
   rename_i e;simp only[mB]at h;have:=mH e;subst this; subst h;simp
  ·simp[ih h]
theorem d7u:∀(code:Code) (b:Nat) (q:Nat × Code),q∈loops b code→∀p∈blocks q.1 q.2,p∈blocks b code:=by
 intro code;induction code with
 | seq x y ihx ihy =>
  intro b q hq p hp;simp only[loops,mM]at hq;exact c2E (hq.imp (λh=>ihx b q h p hp) (λh=>ihy b q h p hp))
 | cond c x y ihx ihy =>
  intro b q hq p hp;simp only[loops,blocks,mM]at hq ⊢;exact hq.imp (λh=>ihx b q h p hp) (λh=>ihy b q h p hp)
 | block id x ih=>intro b q hq p hp; exact nG _ (ih id q hq p hp)
 | loop x ih =>
  intro b q hq p hp;simp only[loops,mV]at hq;simp only[blocks];rcases hq with rfl | hq
  ·exact hp
  ·exact ih b q hq p hp
 | _=>intro b q hq; simp[loops]at hq
theorem d4O {code:Code} (h:kG (fsts (blocks 0 code))=true):h7r (λb=>bT (blocks 0 code) b) 0 code:=λp hp=>b2A h p hp
theorem c7T {code:Code} (h:kG (fsts (blocks 0 code))=true) {b:Nat} {x:Code} (hb:bT (loops 0 code) b=some x):h7r (λb=>bT (blocks 0 code) b) b x :=
 λp hp=>b2A h p (d7u code 0 (b,x) (e3R _ hb) p hp)
def un {R:Type} (t:Ty) (p:List DV) (k:Den t→List DV→Option R):Option R :=
 match p with
 | ⟨u,v⟩::r=>tyc u t (λh=>k (h ▸ v) r) none
 | []=>none
def un0 {R:Type} (p:List DV) (x:Option R):Option R :=
 match p with
 | []=>x
 | _=>none
theorem un_some {R:Type} {t:Ty} {p:List DV} {k:Den t→List DV→Option R} {r:R} (h:un t p k=some r):∃v q,p=⟨t,v⟩::q∧k v q=some r:=by
 unfold un at h;split at h
 ·
  rename_i u v q;rcases e3N (t:=u) (u:=t) (k:=λh=>k (h ▸ v) q) (e:=none) with⟨e,h'⟩ | e
  ·
   rw[h']at h;subst e;exact⟨v,q,rfl,h⟩
  ·rw[e]at h; simp at h
 ·simp at h
theorem d9n {R:Type} {p:List DV} {x:Option R} {r:R} (h:un0 p x=some r):p=[]∧x=some r:=by
 unfold un0 at h;split at h
 ·exact⟨rfl,h⟩
 ·simp at h
def AllP {α:Type} (R:α→Prop):List α→Prop
 | []=>True
 | x::r=>R x∧AllP R r
abbrev CE:=CS × (List DV→(List DV→Option Rs)→Option Rs)
def ctL:List CE→CT
 | []=>λ_ _ _=>none
 | e::r=>λf p K=>match Nat.beq f e.1.id with
  | true=>e.2 p K
  | false=>ctL r f p K
def dM:List CE→Nat→Option CS
 | [],_=>none
 | e::r,f=>match Nat.beq f e.1.id with
  | true=>some e.1
  | false=>dM r f
def okC (P:Program) (l:List CE) (f:Nat) (p q:List DV):Prop:=∃c,dM l f=some c∧eM P c p q
def CEok (P:Program) (e:CE):Prop:=∀p K r,e.2 p K=some r→∃q,eM P e.1 p q∧K q=some r
theorem d3Z {P:Program}:∀{l:List CE},AllP (CEok P) l→CTok (okC P l) (ctL l)
 | [],_,f,p,K,r,h=>by simp[ctL]at h
 | e::l,ha,f,p,K,r,h=>by
  simp only[ctL]at h;split at h
  ·
   rename_i hf;obtain⟨q,h1,h2⟩:=ha.1 p K r h;exact⟨q,⟨e.1,by simp[dM,hf],h1⟩,h2⟩
  ·
   rename_i hf;obtain⟨q,⟨c,h0,h1⟩,h2⟩:=d3Z ha.2 f p K r h;exact⟨q,⟨c,by simp[dM,hf,h0],h1⟩,h2⟩
theorem d2l {P:Program} {l:List CE} {cs:List ((Nat × Nat) × CS)} (h:AllP (λe=>dM l e.2.id=some e.2) cs):∀rg ix c,fc cs rg ix=some c→∀p q,okC P l c.id p q→eM P c p q:=by
 intro rg ix c hc p q ⟨c',h1,h2⟩;have key:∀cs:List ((Nat × Nat) × CS),AllP (λe=>dM l e.2.id=some e.2) cs→fc cs rg ix=some c→dM l c.id=some c:=by
  intro cs;induction cs with
  | nil=>intro _ h; simp[fc]at h
  | cons x r ih =>
   intro ha h;simp only[fc]at h;split at h
   ·simp only[mB]at h; subst h; exact ha.1
   ·exact ih ha.2 h
 rw[key cs h hc]at h1;simp only[mB]at h1;subst h1;exact h2
abbrev LE:=Nat × (List DV→(Rs→Option Rs)→Option Rs)
def ltL:List LE→LT
 | []=>λ_ _ _=>none
 | e::r=>λb p K=>match Nat.beq b e.1 with
  | true=>e.2 p K
  | false=>ltL r b p K
def LEok (P:Program) (hi:Hi) (bod:Bod) (nt nb:Nat) (e:LE):Prop :=
 (memN e.1 hi.js=false→∀l body,bT hi.ls e.1=some l→bod.lp e.1=some body→∀p K r,e.2 p K=some r→∃q,h7t P nt nb l body p q∧K q=some r) ∧
 (memN e.1 hi.js=true→∀l body,bT hi.ls e.1=some l→bod.bk e.1=some body→∀p K r,e.2 p K=some r→∃q,h8i P nt nb l e.1 body.2 p q∧K q=some r)
theorem d1e {P : Program} {hi : Hi} {bod : Bod} {nt nb : Nat} : ∀ {l : List LE}, AllP (LEok P hi bod nt nb) l → LTok P hi bod nt nb (ltL l)
  | [], _ => ⟨fun b l body p K r h0 h1 h2 h => by simp [ltL] at h, fun b l body p K r h0 h1 h2 h => by simp [ltL] at h⟩
  | e :: t, ha => ⟨fun b l body p K r h0 h1 h2 h => by
      simp only [ltL] at h
      split at h
      · rename_i hb
        have := mH hb
        subst this
        exact ha.1.1 h0 l body h1 h2 p K r h
      · exact (d1e ha.2).1 b l body p K r h0 h1 h2 h,
    fun b l body p K r h0 h1 h2 h => by
      simp only [ltL] at h
      split at h
      · rename_i hb
        have := mH hb
        subst this
        exact ha.1.2 h0 l body h1 h2 p K r h
      · exact (d1e ha.2).2 b l body p K r h0 h1 h2 h⟩
structure Fn (P:Program) (f:FuncId) (fn:Func) (code:Code):Prop where
 at_:P.funcs[f]?=some fn
 body:fn.body=some code
 name : (fn.name == "runtime.NumGoroutine") = false
 loops:kG (fsts (loops 0 code))=true
 blks:kG (fsts (blocks 0 code))=true
def cr (f:Func):Code:=match f.body with | some c=>c | none=>.skip
def bn (f:Func):Bod:=⟨λb=>bT (Zz.loops 0 (cr f)) b,λb=>bT (Zz.blocks 0 (cr f)) b⟩
def eW (f:Func) (b:Nat):Code:=match (bn f).lp b with | some c=>c | none=>.skip
section
variable {P:Program} {cx:Cx} {hi:Hi} {l:List CE} {t:List LE}
theorem f1r (hti:TIok P cx) (hmix:P.follows .mixedOrders=true) (hct:AllP (CEok P) l) (hcs:AllP (λe=>dM l e.2.id=some e.2) hi.cs) {cs:CS} {fn:Func} (hf:Fn P cs.fn fn (cr fn))
  (hone:cs.one=Nat.beq fn.results.size 1) (hrl:cs.r.length=fn.results.size) (hlt:AllP (LEok P hi (bn fn) fn.ntmps cs.i.bx.length) t) {p q:List DV} {n0:Nat}
  (h:den cx hi (ctL l) (ltL t) fn (cr fn) cs.i cs.r cs.ob p=some (n0,q)):eM P cs p q :=
 e8e (d3Z hct) hti (d2l hcs) hmix hf.at_ hf.body (c7x hf.at_ hf.name (by rw[hf.body]; rfl)) hone hrl (d1e hlt) (e0z hf.loops) (d4O hf.blks) h
theorem e7O (hti:TIok P cx) (hmix:P.follows .mixedOrders=true) (hct:AllP (CEok P) l) (hcs:AllP (λe=>dM l e.2.id=some e.2) hi.cs) {f:FuncId} {fn:Func} (hf:Fn P f fn (cr fn)) {nb b:Nat}
  (hlt:AllP (LEok P hi (bn fn) fn.ntmps nb) t) {ls:LS} {body:Code} (h1:bT hi.ls b=some ls) (h2:(bn fn).lp b=some body) {n:Nat} {p:List DV} {q:Rs}
  (h:iter (round cx hi (ctL l) (ltL t) fn.ntmps nb b ls body) n p=some q):h7t P fn.ntmps nb ls body p q :=
 e7a (d3Z hct) hti (d2l hcs) hmix (d1e hlt) h1 (c5A hf.loops h2) (c7T hf.blks h2) h
end
def clS (x:L) (n:Nat):St:={tm:=.one x::bads (n-1),ob:=[],nx:=0}
def denC (cx:Cx) (hi:Hi) (ct:CT) (lt:LT) (fn:Func) (c:Code) (t:Ty) (x:L):Option Rs :=
 run cx hi ct lt fn.ntmps 0 0 c (clS x fn.ntmps) (jK cx ct fn.results.toList 0 [.one (.o t)] []) (λ_ _=>none) (jK cx ct fn.results.toList 0 [.one (.o t)] [])
section
variable {P:Program} {cx:Cx} {hi:Hi}
theorem b4D (hti:TIok P cx) (hmix:P.follows .mixedOrders=true) {cs:CS} {t:Ty} (hi0:hi.cs=[]) (hci:cs.i={av:=[.one (.d (.sl t))],bx:=[]}) (hcr:cs.r=[.one (.o t)]) (hco:cs.ob=[]) (hcn:cs.one=true) {fn:Func} (hf:Fn P cs.fn fn (cr fn))
  (hrl:fn.results.size=1) (hnt:Nat.ble 1 fn.ntmps=true) (hnl:loops 0 (cr fn)=[]) {xs:List (Den t)} {q:List DV} {n0:Nat}
  (hz:xs=[]→denC cx hi (ctL []) (ltL []) fn (cr fn) t .nl=some (n0,q)) (hn:denC cx hi (ctL []) (ltL []) fn (cr fn) t (.nn t xs)=some (n0,q)):eM P cs [⟨.sl t,xs⟩] q:=by
 refine⟨c7x hf.at_ hf.name (by rw[hf.body]; rfl),λβ F w es vs hfb hvl hs=>?_,λu hu=>by rw[hci]at hu; simp at hu⟩
 have hcx:CTok (okC P []) (ctL []):=d3Z (l:=[]) trivial;have hok:∀rg ix c,fc hi.cs rg ix=some c→∀p q,okC P [] c.id p q→eM P c p q:=d2l (l:=[]) (by rw[hi0]; trivial)
 have he:Enter ⟨ownB cs.i.bx.length β es,F,w,cs.i.bx.length,β⟩ F w cs.i.bx.length β es :=
  ⟨hfb,λ_ h=>h,λ_ _ _=>rfl,λ_ h=>.inl h,λ_ h=>.inl h,mG _,rfl,rfl,rfl,mG _,λ_ _=>rfl⟩
 have hnt':1≤fn.ntmps:=by simpa using hnt
 have hvl':vs.length=1:=by rw[hvl,hci]; rfl
 have hsz:(vs.toArray++Array.replicate (fn.ntmps-vs.toArray.size) undef).size=fn.ntmps:=by simp; omega
 have hs0:mkSt cs.i fn.ntmps [⟨.sl t,xs⟩]=some (clS (.dat (.sl t) xs) fn.ntmps):=by
  rw[hci];simp[mkSt,blAs,blA,blL,blBs,unpk,clS,cD,b4f,h8G,h7I]
 obtain⟨m1,m2⟩:=j6 (rest:=List.replicate (fn.ntmps-vs.toArray.size) undef) hs he hs0 (a:={tmps:=vs.toArray++Array.replicate (fn.ntmps-vs.toArray.size) undef,defers:=[]}) (by simp) hsz rfl;have key:∀x:L,denC cx hi (ctL []) (ltL []) fn (cr fn) t x=some (n0,q) →
   Rel ⟨ownB cs.i.bx.length β es,F,w,cs.i.bx.length,β⟩ (λk=>k<(clS x fn.ntmps).nx) (clS x fn.ntmps) {tmps:=vs.toArray++Array.replicate (fn.ntmps-vs.toArray.size) undef,defers:=[]} w →
   Calls P cs.fn vs.toArray w λout w'=>∃v F' fs,out=.returned v∧h7Q cs β F w es q v w' F' fs:=by
  intro x hx hr;refine calls_of_wp hf.at_ hf.body ?_;have hnb:cs.i.bx.length=0:=by rw[hci]; rfl
  have hrun:run cx hi (ctL []) (ltL []) fn.ntmps cs.i.bx.length 0 (cr fn) (clS x fn.ntmps) (jK cx (ctL []) fn.results.toList cs.i.bx.length cs.r cs.ob) (λ_ _=>none) (jK cx (ctL []) fn.results.toList cs.i.bx.length cs.r cs.ob)=some (n0,q):=by
   rw[hcr,hco,hnb]; exact hx
  refine d9h (C:=⟨ownB cs.i.bx.length β es,F,w,cs.i.bx.length,β⟩) (bod:=bn fn) hcx hti hok hmix (d1e (l:=[]) trivial) (cr fn) 0 _ _ _ _ (n0,q) _ w _ (d2C _ 0 (by rw[hnl]; simp)) (d4O hf.blks) hrun hr (λs' a' w' h' hr'=>?_) (λi s' a' w' h' hr'=>by simp at h') (λs' a' w' h' hr'=>?_)
  ·
   obtain⟨g1,v,g2,F',fs,g3⟩:=c1d (r0:=[]) hcx hti (by rw[hci,hco]<;>rfl) (by rw[hcn,hrl]<;>rfl) (by rw[hcr,hrl]<;>rfl) rfl h' hr';exact⟨g1,v,g2,v,F',fs,rfl,g3⟩
  ·
   obtain⟨g1,v,g2,F',fs,g3⟩:=c1d (r0:=[]) hcx hti (by rw[hci,hco]<;>rfl) (by rw[hcn,hrl]<;>rfl) (by rw[hcr,hrl]<;>rfl) rfl h' hr';exact⟨g1,v,g2,v,F',fs,rfl,g3⟩
 obtain⟨E,G,hm,ht⟩:=m2;have h0:RepV E G w (.one (.dat (.sl t) xs)) ((vs.toArray++Array.replicate (fn.ntmps-vs.toArray.size) undef).getD 0 undef):=by
  have:=ht.at_ 0;exact this
 have set:∀x:L,RepV E G w (.one x) ((vs.toArray++Array.replicate (fn.ntmps-vs.toArray.size) undef).getD 0 undef) →
   Rel ⟨ownB cs.i.bx.length β es,F,w,cs.i.bx.length,β⟩ (λk=>k<(clS x fn.ntmps).nx) (clS x fn.ntmps) {tmps:=vs.toArray++Array.replicate (fn.ntmps-vs.toArray.size) undef,defers:=[]} w:=by
  intro x hx;refine⟨E,G,hm,λk=>?_,ht.tl,ht.df⟩
  cases k with
  | zero=>exact hx
  | succ k=>exact ht.at_ (k+1)
 obtain⟨hc,hd⟩:=h0;have hd':=hd;rw[RepL,RepD]at hd;obtain⟨ad,cap,e,hl,hh⟩:=hd;simp only[mK,and_true]at e;cases ad with
 | none =>
  have hx:xs=[]:=by
   rcases hh with h | ⟨b,o,ds,h,_⟩
   ·exact h
   ·simp at h
  refine key .nl (hz hx) (set .nl ⟨hc,cap,?_⟩);rw[e,hx]; rfl
 | some b =>
  exact key (.nn t xs) hn (set (.nn t xs) ⟨hc,hd',b,List.length xs,cap,by rw[e]⟩)
end
@[reducible] def Tup:List Ty→Type
 | []=>Unit
 | t::ts=>Den t × Tup ts
def ofT:(ts:List Ty)→Tup ts→List DV
 | [],_=>[]
 | t::ts,y=>⟨t,y.1⟩::ofT ts y.2
def nos:Nat→List AK
 | 0=>[]
 | n+1=>.no::nos n
section
variable {P:Program} {cx:Cx} {hi:Hi} {l:List CE} {t:List LE}
end
end
end Go.Proofs.Zz
