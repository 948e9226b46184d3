import Derived.Test.YtpplgkggclddiaaNA
import Derived.Test.YtpplgkggclddiaaMD
set_option linter.unusedSimpArgs false
set_option linter.unusedVariables false
/- The reference's targets, programs that may be, and cells, word for word. -/
namespace Go.Proofs.Zz
open Go
variable {N:Nat}
/-! Targets -/
def codeM (p:api_Program) (n:Nat):api_Ins:=p.Code.getD n api_Ins.z
def brM (i:api_Ins):Bool:=decide (formM i.1 = 6∨formM i.1 = 7)
def tgtM (p:api_Program) (n:Int):Int :=
 if brM (codeM p n.toNat) = true∧-8192≤(codeM p n.toNat).2.2.2.2.1∧(codeM p n.toNat).2.2.2.2.1≤8191∧0≤n+(codeM p n.toNat).2.2.2.2.1∧n+(codeM p n.toNat).2.2.2.2.1 < len p.Code then n+(codeM p n.toNat).2.2.2.2.1 else -1
theorem tgt_chain {n m L:Int} (h0:0≤n) (h1:n≤100000) :
  bi (decide (m < (-8192:Int))) (some (0,gI.dv (-1:Int) [])) (bi (decide (m > 8191)) (some (0,gI.dv (-1:Int) [])) (bi (decide (w.i64 (n+m) < 0)) (some (0,gI.dv (-1:Int) [])) (bi (decide (w.i64 (n+m)≥L)) (some (0,gI.dv (-1:Int) [])) (some (0,gI.dv (w.i64 (n+m)) []))))) = (some (0,gI.dv (if -8192≤m∧m≤8191∧0≤n+m∧n+m < L then n+m else -1) []):Option Rs):=by
 by_cases a1:m < -8192
 · rw [dt a1,bi_true,if_neg (by omega)]
 rw [df a1,bi_false];by_cases a2:m > 8191
 · rw [dt a2,bi_true,if_neg (by omega)]
 rw [df a2,bi_false,wI (x:=n+m) (by omega) (by omega)];by_cases a3:n+m < 0
 · rw [dt a3,bi_true,if_neg (by omega)]
 rw [df a3,bi_false];by_cases a4:n+m≥L
 · rw [dt a4,bi_true,if_neg (by omega)]
 rw [df a4,bi_false,if_pos (by omega)]
theorem Target_ex (p:api_Program) (n:Int) (h0:0≤n) (h1:n < (p.Code.length:Int)) (hl:p.Code.length≤100000):r1_Target N p n = some (0,gI.dv (tgtM p n) []):=by
 unfold r1_Target;rw [idx_t h0 h1,gd_true,r1_Form_is,on1_some,gg_dv,gg_nil];have hc:=tgt_chain (n:=n) (m:=(codeM p n.toNat).2.2.2.2.1) (L:=len p.Code) h0 (by omega);unfold tgtM brM;unfold codeM at *;generalize p.Code.getD n.toNat api_Ins.z = i at *;by_cases f6:formM i.1 = 6
 ·
  rw [show (formM i.1 != 6) = false by rw [f6]; rfl,bi_false,hc];simp only [f6,true_or,decide_true,true_and]
 rw [show (formM i.1 != 6) = true from bne_iff_ne.2 f6,bi_true];by_cases f7:formM i.1 = 7
 ·
  rw [show (formM i.1 != 7) = false by rw [f7]; rfl,bi_false,hc];simp only [f7,or_true,decide_true,true_and]
 ·
  rw [show (formM i.1 != 7) = true from bne_iff_ne.2 f7,bi_true,if_neg];intro h;have:=of_decide_eq_true h.1;omega
def tgtOk (p:api_Program) (j:Nat):Bool:=!(brM (codeM p j) && decide (tgtM p (j:Int) < 0))
theorem Targets_ex_loop (p:api_Program) (hl:p.Code.length≤100000):∀ (n i:Nat),i≤p.Code.length→p.Code.length - i < n →
  r1_Targets_l0 N n (i:Int) p = if (List.range' i (p.Code.length - i)).all (tgtOk p) = true then some (1,[]) else some (0,gI.dv 4 []):=by
 intro n;induction n with
 | zero=>intro i h1 h2; omega
 | succ n ih =>
  intro i h1 h2;show r1_Targets_r0 N (r1_Targets_l0 N n) (i:Int) p = _;unfold r1_Targets_r0;by_cases hi:i < p.Code.length
  ·
   have hrec:=ih (i+1) (by omega) (by omega);rw [show p.Code.length - i = (p.Code.length - (i+1))+1 by omega,List.range'_succ,List.all_cons,lt_len hi,bi_true,idx_n hi,gd_true,r1_Form_is,on1_some,gg_dv,gg_nil];simp only [Target_ex p (i:Int) (by omega) (by omega) hl,on1_some,gg_dv,gg_nil,wS (show i≤100000000 by omega),Int.toNat_natCast];rw [hrec];unfold tgtOk brM codeM;generalize p.Code.getD i api_Ins.z = k;generalize (List.range' (i+1) (p.Code.length - (i+1))).all _ = r;by_cases f6:formM k.1 = 6
   ·
    rw [bt f6,bi_true];by_cases ht:tgtM p (i:Int) < 0
    · rw [dt ht,bi_true]; simp [f6]
    · rw [df ht,bi_false]; simp [f6]
   rw [bf f6,bi_false];by_cases f7:formM k.1 = 7
   ·
    rw [bt f7,bi_true];by_cases ht:tgtM p (i:Int) < 0
    · rw [dt ht,bi_true]; simp [f7]
    · rw [df ht,bi_false]; simp [f7]
   · rw [bf f7,bi_false]; simp [f6,f7]
  ·
   have:i = p.Code.length:=by omega
   subst this;rw [ge_len (by omega),bi_false,Nat.sub_self];rfl
def tgtsOk (p:api_Program):Bool:=(List.range' 0 p.Code.length).all (tgtOk p)
theorem Targets_ex (p:api_Program) (hl:p.Code.length≤100000) (hN:p.Code.length < N):r1_Targets N p = some (0,gI.dv (if tgtsOk p = true then 0 else 4) []):=by
 unfold r1_Targets;have h:=Targets_ex_loop (N:=N) p hl N 0 (by omega) (by omega);rw [show r1_Targets_l0 N N 0 p = _ from h];unfold tgtsOk;rw [Nat.sub_zero];cases (List.range' 0 p.Code.length).all (tgtOk p) with
 | true=>rw [if_pos rfl,onB_snd _ _ (by decide),gg_nil,if_pos rfl]
 | false=>rw [if_neg (by simp),onB_fst,gg_dv,gg_nil,if_neg (by simp)]
/-! Programs that may be -/
def rightP (p:api_Program):Bool:=decide (1≤p.Code.length∧p.Code.length≤2000∧0≤p.Size∧p.Size≤65536∧len p.Data≤p.Size) && (p.Code.all rightIns && tgtsOk p)
theorem Right_ex_loop (p:api_Program) (hl:p.Code.length≤100000):∀ (n i:Nat),i≤p.Code.length→p.Code.length - i < n →
  r1_RightProgram_l0 N n (i:Int) p = if (p.Code.drop i).all rightIns = true then some (1,g_api_Program.dv p []) else some (0,gB.dv false []):=by
 intro n;induction n with
 | zero=>intro i h1 h2; omega
 | succ n ih =>
  intro i h1 h2;show r1_RightProgram_r0 N (r1_RightProgram_l0 N n) (i:Int) p = _;unfold r1_RightProgram_r0;by_cases hi:i < p.Code.length
  ·
   have hrec:=ih (i+1) (by omega) (by omega);have hdrop:p.Code.drop i = p.Code.getD i api_Ins.z::p.Code.drop (i+1):=by
    rw [List.drop_eq_getElem_cons hi,List.getD_eq_getElem?_getD,List.getElem?_eq_getElem hi]; rfl
   rw [lt_len hi,bi_true,idx_n hi,gd_true,Int.toNat_natCast,r1_RightIns_is,on1_some,gg_dv,gg_nil,wS (show i≤100000000 by omega),hrec,hdrop,List.all_cons];cases rightIns (p.Code.getD i api_Ins.z) with
   | false=>rw [Bool.not_false,bi_true,Bool.false_and,if_neg (by simp)]
   | true=>rw [Bool.not_true,bi_false,Bool.true_and]
  ·
   have:i = p.Code.length:=by omega
   subst this;rw [ge_len (by omega),bi_false,List.drop_length];rfl
theorem RightP_is (p:api_Program) (hN:2000 < N):r1_RightProgram N p = some (0,gB.dv (rightP p) []):=by
 unfold r1_RightProgram rightP;by_cases a1:len p.Code < 1
 · rw [dt a1,bi_true,df (by simp only [len] at a1; omega),Bool.false_and]
 rw [df a1,bi_false];by_cases a2:len p.Code > 2000
 · rw [dt a2,bi_true,df (by simp only [len] at a2; omega),Bool.false_and]
 rw [df a2,bi_false];by_cases a3:p.Size < 0
 · rw [dt a3,bi_true,df (by omega),Bool.false_and]
 rw [df a3,bi_false];by_cases a4:p.Size > 65536
 · rw [dt a4,bi_true,df (by omega),Bool.false_and]
 rw [df a4,bi_false];by_cases a5:len p.Data > p.Size
 · rw [dt a5,bi_true,df (by omega),Bool.false_and]
 rw [df a5,bi_false,dt (show 1≤p.Code.length∧p.Code.length≤2000∧0≤p.Size∧p.Size≤65536∧len p.Data≤p.Size by simp only [len] at a1 a2 a5 ⊢; omega),Bool.true_and];have hl:p.Code.length≤2000:=by simp only [len] at a2; omega
 have h:=Right_ex_loop (N:=N) p (by omega) N 0 (by omega) (by omega);rw [List.drop_zero] at h;rw [show r1_RightProgram_l0 N N 0 p = _ from h];cases p.Code.all rightIns with
 | false=>rw [if_neg (by simp),onB_fst,gg_dv,gg_nil,Bool.false_and]
 | true =>
  rw [if_pos rfl,onB_snd _ _ (by decide),gg_dv,gg_nil,Targets_ex p (by omega) (by omega),on1_some,gg_dv,gg_nil,Bool.true_and];cases tgtsOk p <;> rfl
theorem rightP_Right {p:api_Program} (h:rightP p = true):Right p:=by
 unfold rightP at h;simp only [Bool.and_eq_true,decide_eq_true_eq] at h;exact ⟨h.1.1,h.1.2.1,fun j hj=>List.all_eq_true.1 h.2.1 _ (getD_mem _ hj)⟩
/-! Owners of registers -/
def onEM (o:List Int) (n:Int):Bool:=decide (n > 0) && (o.getD n.toNat 0 == 2)
def ownM (o:List Int) (n:Int):Int:=if n < 1 then 0 else if n > 15 then 0 else o.getD n.toNat 0
def anyEM (o l:List Int):Bool:=l.any (onEM o)
theorem onE_ex (o:List Int) (n:Int) (h:n≤15):r10_onE N o n = some (0,gB.dv (onEM o n) []):=by
 unfold r10_onE onEM;by_cases h1:n > 0
 · rw [dt h1,bi_true,idx_t (by omega) (by omega),gd_true,Bool.true_and]
 · rw [df h1,bi_false,Bool.false_and]
theorem anyE_ex_loop (o l:List Int) (hl:l.length≤100) (hb:∀ x∈l,x≤15):∀ (n i:Nat),i≤l.length→l.length - i < n →
  r10_anyE_l0 N n l (i:Int) o = if (l.drop i).any (onEM o) = true then some (0,gB.dv true []) else some (1,[]):=by
 intro n;induction n with
 | zero=>intro i h1 h2; omega
 | succ n ih =>
  intro i h1 h2;show r10_anyE_r0 N (r10_anyE_l0 N n) l (i:Int) o = _;unfold r10_anyE_r0;by_cases hi:i < l.length
  ·
   have hrec:=ih (i+1) (by omega) (by omega);have hdrop:l.drop i = l.getD i 0::l.drop (i+1):=by
    rw [List.drop_eq_getElem_cons hi,List.getD_eq_getElem?_getD,List.getElem?_eq_getElem hi]; rfl
   rw [lt_len hi,bi_true,idx_n hi,gd_true,Int.toNat_natCast,onE_ex o _ (hb _ (getD_mem 0 hi)),on1_some,gg_dv,gg_nil,wS (show i≤100000000 by omega),hrec,hdrop,List.any_cons];cases onEM o (l.getD i 0) with
   | true=>rw [bi_true,Bool.true_or,if_pos rfl]
   | false=>rw [bi_false,Bool.false_or]
  ·
   have:i = l.length:=by omega
   subst this;rw [ge_len (by omega),bi_false,List.drop_length];rfl
theorem anyE_ex (o l:List Int) (hl:l.length≤2) (hb:∀ x∈l,x≤15) (hN:2000 < N):r10_anyE N o l = some (0,gB.dv (anyEM o l) []):=by
 unfold r10_anyE anyEM;have h:=anyE_ex_loop (N:=N) o l (by omega) hb N 0 (by omega) (by omega);rw [List.drop_zero] at h;rw [show r10_anyE_l0 N N l 0 o = _ from h];cases l.any (onEM o) with
 | true=>rw [if_pos rfl,onB_fst,gg_dv,gg_nil]
 | false=>rw [if_neg (by simp),onB_snd _ _ (by decide),gg_nil]
theorem owned_ex (o:List Int) (n:Int):r10_owned N o n = some (0,gI.dv (ownM o n) []):=by
 unfold r10_owned ownM;by_cases h1:n < 1
 · rw [dt h1,bi_true,if_pos h1]
 rw [df h1,bi_false,if_neg h1];by_cases h2:n > 15
 · rw [dt h2,bi_true,if_pos h2]
 rw [df h2,bi_false,if_neg h2,idx_t (by omega) (by omega),gd_true]
def sideOM (i:api_Ins) (o:List Int):Int :=
 if formM i.1 < 1∨3 < formM i.1 then 0 else if ownM o i.2.1 = 1∨(i.2.1 = 0∧anyEM o (readsM i) = false) then 1 else 2
theorem Side_ex (i:api_Ins) (o:List Int) (hN:2000 < N):r10_Side N i o = some (0,gI.dv (sideOM i o) []):=by
 unfold r10_Side sideOM;rw [r1_Form_is,on1_some,gg_dv,gg_nil];by_cases h1:formM i.1 < 1
 · rw [dt h1,bi_true,if_pos (.inl h1)]
 rw [df h1,bi_false];by_cases h2:formM i.1 > 3
 · rw [dt h2,bi_true,if_pos (.inr h2)]
 rw [df h2,bi_false,if_neg (by omega),r1_Reads_is,on1_some,gg_dv,gg_nil,owned_ex,on1_some,gg_dv,gg_nil];by_cases h3:ownM o i.2.1 = 1
 · rw [bt h3,bi_true,if_pos (.inl h3)]
 rw [bf h3,bi_false];by_cases h4:i.2.1 = 0
 ·
  rw [bt h4,bi_true,anyE_ex o _ (readsM_len i) (fun x hx=>(readsM_regs i x hx).2) hN,on1_some,gg_dv,gg_nil];cases h5:anyEM o (readsM i) with
  | true=>rw [Bool.not_true,bi_false,if_neg (by rintro (h | h); exact h3 h; simp at h)]
  | false=>rw [Bool.not_false,bi_true,if_pos (.inr ⟨h4,rfl⟩)]
 · rw [bf h4,bi_false,if_neg (by rintro (h | h); exact h3 h; exact h4 h.1)]
def addS (o:List Int) (out:List Int) (r:Int):List Int:=if ownM o r = 1∧r∉out then out++[r] else out
def sentOM (i:api_Ins) (o:List Int):List Int:=(readsM i).foldl (addS o) []
theorem find_ex_loop (l:List Int) (x:Int) (hl:l.length≤100000):∀ (n i:Nat),i≤l.length→l.length - i < n →
  r10_find_l0 N n l x (i:Int) = if x∈l.drop i then some (0,gI.dv ((i:Int)+(List.idxOf x (l.drop i):Nat)) []) else some (1,[]):=by
 intro n;induction n with
 | zero=>intro i h1 h2; omega
 | succ n ih =>
  intro i h1 h2;show r10_find_r0 N (r10_find_l0 N n) l x (i:Int) = _;unfold r10_find_r0;by_cases hi:i < l.length
  ·
   have hrec:=ih (i+1) (by omega) (by omega);have hdrop:l.drop i = l.getD i 0::l.drop (i+1):=by
    rw [List.drop_eq_getElem_cons hi,List.getD_eq_getElem?_getD,List.getElem?_eq_getElem hi]; rfl
   rw [lt_len hi,bi_true,idx_n hi,gd_true,Int.toNat_natCast,wS (show i≤100000000 by omega),hrec,hdrop];by_cases he:l.getD i 0 = x
   ·
    rw [bt he,bi_true,if_pos (by rw [he]; simp),he,List.idxOf_cons_self];simp
   ·
    rw [bf he,bi_false,List.idxOf_cons,show (l.getD i 0 == x) = false from bf he,cond_false];by_cases hm:x∈l.drop (i+1)
    ·
     rw [if_pos hm,if_pos (List.mem_cons_of_mem _ hm)];congr 3;omega
    · rw [if_neg hm,if_neg (by rw [List.mem_cons]; rintro (h | h); exact he h.symm; exact hm h)]
  ·
   have:i = l.length:=by omega
   subst this;rw [ge_len (by omega),bi_false,List.drop_length,if_neg (by simp)]
def findL (l:List Int) (x:Int):Int:=if x∈l then (List.idxOf x l:Nat) else -1
theorem find_ex (l:List Int) (x:Int) (hl:l.length≤2000) (hN:2000 < N):r10_find N l x = some (0,gI.dv (findL l x) []):=by
 unfold r10_find findL;have h:=find_ex_loop (N:=N) l x (by omega) N 0 (by omega) (by omega);rw [List.drop_zero] at h;rw [show r10_find_l0 N N l x 0 = _ from h];by_cases hm:x∈l
 · rw [if_pos hm,onB_fst,gg_dv,gg_nil,if_pos hm]; simp
 · rw [if_neg hm,onB_snd _ _ (by decide),gg_nil,if_neg hm]
theorem sent_ex_loop (l o:List Int) (hl:l.length≤2) (hN:2000 < N):∀ (n i:Nat) (out:List Int),i≤l.length→l.length - i < n→out.length≤i →
  r10_sent_l0 N n l out (i:Int) o = some (1,(gD (.sl tI)).dv ((l.drop i).foldl (addS o) out) []):=by
 intro n;induction n with
 | zero=>intro i out h1 h2; omega
 | succ n ih =>
  intro i out h1 h2 h3;show r10_sent_r0 N (r10_sent_l0 N n) l out (i:Int) o = _;unfold r10_sent_r0;by_cases hi:i < l.length
  ·
   have hrec:=fun out h=>ih (i+1) out (by omega) (by omega) h
   have hdrop:l.drop i = l.getD i 0::l.drop (i+1):=by
    rw [List.drop_eq_getElem_cons hi,List.getD_eq_getElem?_getD,List.getElem?_eq_getElem hi]; rfl
   rw [lt_len hi,bi_true,idx_n hi,gd_true,Int.toNat_natCast,owned_ex,on1_some,gg_dv,gg_nil,wS (show i≤100000000 by omega),hdrop,List.foldl_cons];unfold addS;by_cases ho:ownM o (l.getD i 0) = 1
   ·
    rw [bt ho,bi_true,gd_true,find_ex out _ (by omega) hN,on1_some,gg_dv,gg_nil,gd_true];unfold findL;by_cases hm:l.getD i 0∈out
    ·
     rw [if_pos hm,df (by omega),bi_false,if_neg (by rintro ⟨_,h⟩; exact h hm)];exact hrec _ (by omega)
    ·
     rw [if_neg hm,dt (by decide),bi_true,rmT (by simp; omega),gd_true,if_pos ⟨ho,hm⟩];exact hrec _ (by simp; omega)
   ·
    rw [bf ho,bi_false,if_neg (by rintro ⟨h,_⟩; exact ho h)];exact hrec _ (by omega)
  ·
   have:i = l.length:=by omega
   subst this;rw [ge_len (by omega),bi_false,List.drop_length];rfl
theorem sent_ex (i:api_Ins) (o:List Int) (hN:2000 < N):r10_sent N i o = some (0,(gD (.sl tI)).dv (sentOM i o) []):=by
 unfold r10_sent sentOM;have hl:=readsM_len i;have h:=sent_ex_loop (N:=N) (readsM i) o hl hN N 0 [] (by omega) (by omega) (by simp);rw [List.drop_zero] at h;rw [r1_Reads_is,on1_some,gg_dv,gg_nil,show r10_sent_l0 N N (readsM i) [] 0 o = _ from h,onA_some,gg_dv,gg_nil]
theorem addS_len (o:List Int):∀ (l out:List Int),(l.foldl (addS o) out).length≤out.length+l.length
 | [],out=>by simp
 | r::l,out=>by
  rw [List.foldl_cons];have h:=addS_len o l (addS o out r);have:(addS o out r).length≤out.length+1:=by unfold addS; split <;> simp
  simp only [List.length_cons];omega
theorem sentOM_len (i:api_Ins) (o:List Int):(sentOM i o).length≤2:=by
 have:=addS_len o (readsM i) [];have:=readsM_len i;unfold sentOM;simp at *;omega
/-! Cells -/
def cellI (kd:Int) (i:api_Ins) (pc off:Int):api_Cell:=(kd,(i,(0,(pc,(off,())))))
def cellR (kd r:Int) (pc off:Int):api_Cell:=(kd,(api_Ins.z,(r,(pc,(off,())))))
def emitM (i:api_Ins) (o:List Int) (pc off:Int):List api_Cell × List api_Cell :=
 if rightIns i = false then ([],[])
 else if 1≤formM i.1∧formM i.1≤3 then
  if sideOM i o = 1 then ([cellI 1 i pc off],[])
  else ((sentOM i o).map (fun r=>cellR 5 r pc off),(sentOM i o).map (fun r=>cellR 6 r pc off)++[cellI 1 i pc off])
 else if formM i.1 = 4 then
  if onEM o i.2.1 = true then ([cellI 3 i pc off],[cellI 7 i pc off]) else ([cellI 2 i pc off],[])
 else if formM i.1 = 5 then
  if ownM o i.2.2.2.1 = 1 then ([cellR 5 i.2.2.2.1 pc off,cellI 4 i pc off],[cellR 6 i.2.2.2.1 pc off,cellR 8 i.2.2.2.1 pc off])
  else ([cellI 4 i pc off],[cellR 8 i.2.2.2.1 pc off])
 else if formM i.1 = 6 then
  if anyEM o (readsM i) = false then ([cellI 9 i pc off],[cellR 10 0 pc off])
  else ((sentOM i o).map (fun r=>cellR 5 r pc off)++[cellR 10 0 pc off],(sentOM i o).map (fun r=>cellR 6 r pc off)++[cellI 9 i pc off])
 else if formM i.1 = 7 then ([cellR 11 0 pc off],[cellR 11 0 pc off])
 else if formM i.1 = 8 then ([cellR 12 0 pc off],[cellR 12 0 pc off])
 else ([],[])
theorem ins_ex (kd:Int) (i:api_Ins) (m:r10_maker) (h:m.L.length≤1000):r10_maker_ins N kd i m = some (0,g_r10_maker.dv { m with L:=m.L++[cellI kd i m.Pc m.Off] } []):=by
 unfold r10_maker_ins;rw [rmT (by simp; omega),gd_true];rfl
theorem reg_ex (kd r:Int) (m:r10_maker) (h:m.L.length≤1000):r10_maker_reg N kd r m = some (0,g_r10_maker.dv { m with L:=m.L++[cellR kd r m.Pc m.Off] } []):=by
 unfold r10_maker_reg;rw [rmT (by simp; omega),gd_true];rfl
theorem plain_ex (kd:Int) (m:r10_maker) (h:m.L.length≤1000):r10_maker_plain N kd m = some (0,g_r10_maker.dv { m with L:=m.L++[cellR kd 0 m.Pc m.Off] } []):=by
 unfold r10_maker_plain;rw [rmT (by simp; omega),gd_true];rfl
theorem regs_ex_loop (kd : Int) (l : List Int) (hl : l.length ≤ 100) : ∀ (n i : Nat) (m : r10_maker), i ≤ l.length → l.length - i < n → m.L.length ≤ 500 + i →
    r10_maker_regs_l0 N n kd l (i : Int) m = some (1, g_r10_maker.dv { m with L := m.L ++ (l.drop i).map (fun r => cellR kd r m.Pc m.Off) } []) := by
  intro n
  induction n with
  | zero => intro i m h1 h2; omega
  | succ n ih =>
    intro i m h1 h2 h3
    show r10_maker_regs_r0 N (r10_maker_regs_l0 N n) kd l (i : Int) m = _
    unfold r10_maker_regs_r0
    by_cases hi : i < l.length
    · have hdrop : l.drop i = l.getD i 0 :: l.drop (i + 1) := by
        rw [List.drop_eq_getElem_cons hi, List.getD_eq_getElem?_getD, List.getElem?_eq_getElem hi]; rfl
      have hrec := ih (i + 1) { m with L := m.L ++ [cellR kd (l.getD i 0) m.Pc m.Off] } (by omega) (by omega) (by simp; omega)
      rw [lt_len hi, bi_true, idx_n hi, gd_true, Int.toNat_natCast, reg_ex _ _ _ (by omega), on1_some, gg_dv, gg_nil, wS (show i ≤ 100000000 by omega), hrec, hdrop]
      simp
    · have : i = l.length := by omega
      subst this
      rw [ge_len (by omega), bi_false, List.drop_length]
      simp
theorem regs_ex (kd:Int) (l:List Int) (hl:l.length≤2) (m:r10_maker) (h:m.L.length≤500) (hN:2000 < N):r10_maker_regs N kd l m = some (0,g_r10_maker.dv { m with L:=m.L++l.map (fun r=>cellR kd r m.Pc m.Off) } []):=by
 unfold r10_maker_regs;have h:=regs_ex_loop (N:=N) kd l (by omega) N 0 m (by omega) (by omega) (by omega);rw [List.drop_zero] at h;rw [show r10_maker_regs_l0 N N kd l 0 m = _ from h,onA_some,gg_dv,gg_nil]
theorem Emit_ex (i:api_Ins) (o:List Int) (pc off:Int) (hN:2000 < N):r10_Emit N i o pc off = some (0,(gD (.sl t_api_Cell)).dv (emitM i o pc off).1 ((gD (.sl t_api_Cell)).dv (emitM i o pc off).2 [])):=by
 unfold r10_Emit emitM;rw [r1_RightIns_is,on1_some,gg_dv,gg_nil];cases hr:rightIns i with
 | false=>rfl
 | true =>
  obtain ⟨⟨d0,d1⟩,⟨a0,a1⟩,b0,b1⟩:=rightIns_regs hr;have hs:=sentOM_len i o;have hrl:=readsM_len i;have hrb:=fun x hx=>(readsM_regs i x hx).2
  rw [Bool.not_true,bi_false,r1_Form_is,on1_some,gg_dv,gg_nil,if_neg (by simp)];simp only [Side_ex i o hN,sent_ex i o hN,onE_ex o _ d1,owned_ex,r1_Reads_is,anyE_ex o _ hrl hrb hN,on1_some,gg_dv,gg_nil];simp only [ins_ex _ _ (r10_maker.mk pc off []) (by simp),reg_ex _ _ (r10_maker.mk pc off []) (by simp),plain_ex _ (r10_maker.mk pc off []) (by simp),regs_ex _ _ hs (r10_maker.mk pc off []) (by simp) hN,on1_some,gg_dv,gg_nil,List.nil_append];have g1:∀ kd,r10_maker_ins N 1 i { r10_maker.mk pc off [] with L:=(sentOM i o).map (fun r=>cellR kd r pc off) } = some (0,g_r10_maker.dv { r10_maker.mk pc off [] with L:=(sentOM i o).map (fun r=>cellR kd r pc off)++[cellI 1 i pc off] } []):=fun kd=>ins_ex _ _ _ (by simp; omega)
  have g9:∀ kd,r10_maker_ins N 9 i { r10_maker.mk pc off [] with L:=(sentOM i o).map (fun r=>cellR kd r pc off) } = some (0,g_r10_maker.dv { r10_maker.mk pc off [] with L:=(sentOM i o).map (fun r=>cellR kd r pc off)++[cellI 9 i pc off] } []):=fun kd=>ins_ex _ _ _ (by simp; omega)
  have g10:∀ kd,r10_maker_plain N 10 { r10_maker.mk pc off [] with L:=(sentOM i o).map (fun r=>cellR kd r pc off) } = some (0,g_r10_maker.dv { r10_maker.mk pc off [] with L:=(sentOM i o).map (fun r=>cellR kd r pc off)++[cellR 10 0 pc off] } []):=fun kd=>plain_ex _ _ (by simp; omega)
  have g4:r10_maker_ins N 4 i { r10_maker.mk pc off [] with L:=[cellR 5 i.2.2.2.1 pc off] } = some (0,g_r10_maker.dv { r10_maker.mk pc off [] with L:=[cellR 5 i.2.2.2.1 pc off]++[cellI 4 i pc off] } []):=ins_ex _ _ _ (by simp);have g8:r10_maker_reg N 8 i.2.2.2.1 { r10_maker.mk pc off [] with L:=[cellR 6 i.2.2.2.1 pc off] } = some (0,g_r10_maker.dv { r10_maker.mk pc off [] with L:=[cellR 6 i.2.2.2.1 pc off]++[cellR 8 i.2.2.2.1 pc off] } []):=reg_ex _ _ _ (by simp);simp only [g1,g9,g10,g4,g8,on1_some,gg_dv,gg_nil];by_cases f1:formM i.1 = 1
  ·
   rw [bt f1,bi_true,if_pos (by omega)];by_cases h:sideOM i o = 1
   · rw [bt h,bi_true,if_pos h]
   · rw [bf h,bi_false,if_neg h]
  rw [bf f1,bi_false];by_cases f2:formM i.1 = 2
  ·
   rw [bt f2,bi_true,if_pos (by omega)];by_cases h:sideOM i o = 1
   · rw [bt h,bi_true,if_pos h]
   · rw [bf h,bi_false,if_neg h]
  rw [bf f2,bi_false];by_cases f3:formM i.1 = 3
  ·
   rw [bt f3,bi_true,if_pos (by omega)];by_cases h:sideOM i o = 1
   · rw [bt h,bi_true,if_pos h]
   · rw [bf h,bi_false,if_neg h]
  rw [bf f3,bi_false,if_neg (by omega)];by_cases f4:formM i.1 = 4
  ·
   rw [bt f4,bi_true,if_pos f4];cases h:onEM o i.2.1 with
   | true=>rfl
   | false=>rfl
  rw [bf f4,bi_false,if_neg f4];by_cases f5:formM i.1 = 5
  ·
   rw [bt f5,bi_true,if_pos f5];by_cases h:ownM o i.2.2.2.1 = 1
   ·
    rw [bt h,bi_true,if_pos h];rfl
   · rw [bf h,bi_false,if_neg h]
  rw [bf f5,bi_false,if_neg f5];by_cases f6:formM i.1 = 6
  ·
   rw [bt f6,bi_true,if_pos f6];cases h:anyEM o (readsM i) with
   | true=>rfl
   | false=>rfl
  rw [bf f6,bi_false,if_neg f6];by_cases f7:formM i.1 = 7
  · rw [bt f7,bi_true,if_pos f7]
  rw [bf f7,bi_false,if_neg f7];by_cases f8:formM i.1 = 8
  · rw [bt f8,bi_true,if_pos f8]
  rw [bf f8,bi_false,if_neg f8]
end Go.Proofs.Zz

/- The reference's leaders and blocks, word for word. -/
namespace Go.Proofs.Zz
open Go
variable {N:Nat}
def endsI (i:api_Ins):Bool:=decide (formM i.1 = 6∨formM i.1 = 7∨formM i.1 = 8)
theorem ends_ex (i:api_Ins):r10_ends N i = some (0,gB.dv (endsI i) []):=by
 unfold r10_ends endsI;rw [r1_Form_is,on1_some,gg_dv,gg_nil];by_cases f6:formM i.1 = 6
 · rw [bt f6,bi_true,dt (.inl f6)]
 rw [bf f6,bi_false];by_cases f7:formM i.1 = 7
 · rw [bt f7,bi_true,dt (.inr (.inl f7))]
 rw [bf f7,bi_false];by_cases f8:formM i.1 = 8
 · rw [bt f8,dt (.inr (.inr f8))]
 · rw [bf f8,df (by omega)]
theorem tgtM_lt {p:api_Program} {n:Int} (h:0≤tgtM p n):tgtM p n < p.Code.length:=by
 unfold tgtM at *;split
 · rename_i h1; simp only [len] at h1; exact h1.2.2.2.2
 · rename_i h1; rw [if_neg h1] at h; omega
def hitM (p:api_Program) (j k:Nat):Bool:=decide (tgtM p (j:Int) = (k:Int)) || (endsI (codeM p j) && decide (j+1 = k))
def markM (p:api_Program) (i k:Nat):Bool:=decide (k = 0) || (List.range i).any fun j=>hitM p j k
def leadM (p:api_Program):List Nat:=(List.range p.Code.length).filter (markM p p.Code.length)
def leadI (p:api_Program):List Int:=(leadM p).map fun k:Nat=>(k:Int)
theorem markM_succ (p:api_Program) (i k:Nat):markM p (i+1) k = (markM p i k || hitM p i k):=by
 unfold markM;rw [List.range_succ,List.any_append];simp [Bool.or_assoc]
theorem getD_setB (s:List Bool) (a k:Nat) (ha:a < s.length):(s.set a true).getD k false = (decide (a = k) || s.getD k false):=by
 rw [List.getD_eq_getElem?_getD,List.getD_eq_getElem?_getD,List.getElem?_set];by_cases e:a = k
 · subst e; simp [ha]
 · simp [e]
theorem lead0_ex (p:api_Program) (hc:p.Code.length≤2000):∀ (n i:Nat) (s:List Bool),i≤p.Code.length→p.Code.length - i < n→s.length = p.Code.length→(∀ k,k < p.Code.length→s.getD k false = markM p i k) →
  ∃ s',r10_Leaders_l0 N n s (i:Int) p = some (1,(gD (.sl tB)).dv s' [])∧s'.length = p.Code.length∧∀ k,k < p.Code.length→s'.getD k false = markM p p.Code.length k:=by
 intro n;induction n with
 | zero=>intro i s h1 h2; omega
 | succ n ih =>
  intro i s h1 h2 hs hz;show ∃ s',r10_Leaders_r0 N (r10_Leaders_l0 N n) s (i:Int) p = _∧_
  unfold r10_Leaders_r0;by_cases hi:i < p.Code.length
  ·
   have hrec:∀ s:List Bool,s.length = p.Code.length→(∀ k,k < p.Code.length→s.getD k false = (markM p i k || hitM p i k))→∃ s',r10_Leaders_l0 N n s ((i+1:Nat):Int) p = some (1,(gD (.sl tB)).dv s' [])∧s'.length = p.Code.length∧∀ k,k < p.Code.length→s'.getD k false = markM p p.Code.length k :=
    fun s h3 h4=>ih (i+1) s (by omega) (by omega) h3 (fun k hk=>by rw [h4 k hk,markM_succ])
   have ht2:=tgtM_lt (p:=p) (n:=(i:Int));rw [lt_len hi];simp only [bi_true,Target_ex p (i:Int) (by omega) (by omega) (by omega),on1_some,gg_dv,gg_nil,idx_n hi,gd_true,Int.toNat_natCast,ends_ex,wS (show i≤100000000 by omega),set_len,hs];have hh:∀ k,hitM p i k = (decide (tgtM p (i:Int) = (k:Int)) || (endsI (p.Code.getD i api_Ins.z) && decide (i+1 = k))):=fun k=>rfl
   generalize endsI (p.Code.getD i api_Ins.z) = y at *;generalize tgtM p (i:Int) = t at *;by_cases htt:t≥0
   ·
    obtain ⟨a,rfl⟩:∃ a:Nat,t = (a:Int):=⟨t.toNat,by omega⟩
    have ha:a < p.Code.length:=by have:=ht2 htt; omega
    have hd:∀ k:Nat,decide ((a:Int) = (k:Int)) = decide (a = k):=fun k=>by rw [Bool.eq_iff_iff]; simp only [decide_eq_true_eq]; omega
    rw [dt htt,bi_true,idx_t htt (ht2 htt),gd_true,Int.toNat_natCast];cases y with
    | false =>
     refine hrec _ (by rw [set_len,hs]) fun k hk=>?_
     rw [getD_setB _ _ _ (by omega),hz k hk,hh,hd,Bool.false_and,Bool.or_false,Bool.or_comm]
    | true =>
     by_cases hj:i+1 < p.Code.length
     ·
      rw [lt_len hj,bi_true,bi_true,idx_n hj,gd_true];refine hrec _ (by rw [set_len,set_len,hs]) fun k hk=>?_
      rw [getD_setB _ _ _ (by rw [set_len]; omega),getD_setB _ _ _ (by omega),hz k hk,hh,hd,Bool.true_and];cases markM p i k <;> cases decide (a = k) <;> cases decide (i+1 = k) <;> rfl
     ·
      rw [ge_len (by omega),bi_true,bi_false];refine hrec _ (by rw [set_len,hs]) fun k hk=>?_
      rw [getD_setB _ _ _ (by omega),hz k hk,hh,hd,show decide (i+1 = k) = false from df (by omega),Bool.and_false,Bool.or_false,Bool.or_comm]
   ·
    have hd:∀ k:Nat,decide (t = (k:Int)) = false:=fun k=>df (by omega)
    rw [df htt,bi_false];cases y with
    | false=>exact hrec _ hs fun k hk=>by rw [hz k hk,hh,hd,Bool.false_and,Bool.or_false,Bool.or_false]
    | true =>
     by_cases hj:i+1 < p.Code.length
     ·
      rw [lt_len hj,bi_true,bi_true,idx_n hj,gd_true];refine hrec _ (by rw [set_len,hs]) fun k hk=>?_
      rw [getD_setB _ _ _ (by omega),hz k hk,hh,hd,Bool.true_and,Bool.false_or,Bool.or_comm]
     ·
      rw [ge_len (by omega),bi_true,bi_false];exact hrec _ hs fun k hk=>by rw [hz k hk,hh,hd,show decide (i+1 = k) = false from df (by omega),Bool.and_false,Bool.or_false,Bool.or_false]
  ·
   rw [ge_len (by omega)];have:i = p.Code.length:=by omega
   subst this;exact ⟨_,rfl,hs,hz⟩
theorem lead2_ex (s:List Bool) (hc:s.length≤2000):∀ (n i:Nat),i≤s.length→s.length - i < n →
  r10_Leaders_l2 N n s (((List.range i).filter fun k=>s.getD k false).map fun k:Nat=>(k:Int)) (i:Int) = some (3,(gD (.sl tI)).dv (((List.range s.length).filter fun k=>s.getD k false).map fun k:Nat=>(k:Int)) []):=by
 intro n;induction n with
 | zero=>intro i h1 h2; omega
 | succ n ih =>
  intro i h1 h2;show r10_Leaders_r2 N (r10_Leaders_l2 N n) s _ (i:Int) = _;unfold r10_Leaders_r2;by_cases hi:i < s.length
  ·
   have hrec:=ih (i+1) (by omega) (by omega);rw [List.range_succ,List.filter_append,List.map_append] at hrec;have hlen:=List.length_filter_le (fun k=>s.getD k false) (List.range i);rw [List.length_range] at hlen;rw [lt_len hi,bi_true,idx_n hi,gd_true,Int.toNat_natCast,wS (show i≤100000000 by omega)];cases hf:s.getD i false with
   | true =>
    rw [bi_true,rmT (by rw [List.length_map,List.length_singleton]; omega),gd_true];rw [List.filter_cons_of_pos (by simpa using hf)] at hrec;exact hrec
   | false =>
    rw [bi_false];rw [List.filter_cons_of_neg (by simpa using hf)] at hrec
    simpa using hrec
  ·
   rw [ge_len (by omega)];have:i = s.length:=by omega
   subst this;rfl
theorem Leaders_ex (p:api_Program) (hN:2000 < N) (hr:rightP p = true):r10_Leaders N p = some (0,(gD (.sl tI)).dv (leadI p) []):=by
 unfold r10_Leaders;obtain ⟨hc1,hc2,_⟩:=rightP_Right hr;have hlen:(List.replicate (Int.toNat (len p.Code)) false).length = p.Code.length:=by simp [len]
 rw [RightP_is p hN,hr];rw [show decide (0≤(len p.Code)∧(len p.Code)≤(len p.Code)∧(len p.Code)*((1:Nat):Int)≤((reach:Nat):Int)∧(len p.Code)≤((reach:Nat):Int)) = true by
  rw [reach_is]; simp [len]; omega]
 obtain ⟨s,h1,h2,h3⟩:=lead0_ex (N:=N) p hc2 N 0 ((List.replicate (Int.toNat (len p.Code)) false).set 0 true) (by omega) (by omega) (by simp [len]) (by
  intro k hk;rw [getD_setB _ _ _ (by rw [hlen]; omega)];have:(List.replicate (Int.toNat (len p.Code)) false).getD k false = false:=by
   rw [List.getD_eq_getElem?_getD];simp only [List.getElem?_replicate];split <;> rfl
  rw [this];unfold markM;simp [eq_comm])
 have h4:=lead2_ex (N:=N) s (by omega) N 0 (by omega) (by omega);simp only [Int.natCast_zero,List.range_zero,List.filter_nil,List.map_nil] at h1 h4;simp only [on1_some,gg_dv,gg_nil,Bool.not_true,bi_false,gd_true,hlen,idx_t (i:=0) (n:=p.Code.length) (by omega) (by omega),h1,onA_some,h4];have:(List.range s.length).filter (fun k=>s.getD k false) = leadM p:=by
  unfold leadM;rw [h2];exact List.filter_congr fun k hk=>h3 k (List.mem_range.1 hk)
 rw [this];rfl
theorem leadM_sorted (p:api_Program):(leadM p).Pairwise (· < ·):=(List.pairwise_lt_range).filter _
theorem leadI_Lead (p:api_Program):Lead (leadI p) p.Code.length:=by
 have hs:(leadI p).Pairwise (· < ·):=by
  unfold leadI;rw [List.pairwise_map];exact (leadM_sorted p).imp fun h=>by omega
 refine ⟨fun k hk=>?_,fun j k hj hk=>?_,?_⟩
 ·
  rw [List.getD_eq_getElem?_getD,List.getElem?_eq_getElem hk,Option.getD_some];have hm:(leadI p)[k]∈leadI p:=List.getElem_mem _;unfold leadI at hm ⊢;obtain ⟨a,ha,e⟩:=List.mem_map.1 hm;rw [← e];unfold leadM at ha;have:=List.mem_range.1 (List.mem_filter.1 ha).1;omega
 ·
  rw [List.getD_eq_getElem?_getD,List.getElem?_eq_getElem (by omega),Option.getD_some,List.getD_eq_getElem?_getD,List.getElem?_eq_getElem hk,Option.getD_some];exact List.pairwise_iff_getElem.1 hs j k (by omega) hk hj
 ·
  unfold leadI leadM;rw [List.length_map];have:=List.length_filter_le (markM p p.Code.length) (List.range p.Code.length);rw [List.length_range] at this;omega
/-! Blocks -/
def toM (p:api_Program) (l:List Int) (i:Nat):Int:=if i+1 < l.length then l.getD (i+1) 0 else len p.Code
def nxM (p:api_Program) (l:List Int) (t:Int):Int:=if (codeM p (t - 1).toNat).1≠40∧(codeM p (t - 1).toNat).1≠41 then findL l t else -1
def tkM (p:api_Program) (l:List Int) (t:Int):Int:=if tgtM p (t - 1)≥0 then findL l (tgtM p (t - 1)) else -1
def cutB (p:api_Program) (l:List Int) (i:Nat):D0:=(l.getD i 0,(toM p l i,(nxM p l (toM p l i),(tkM p l (toM p l i),((),((),()))))))
theorem cut_ex_loop (p:api_Program) (hc1:1≤p.Code.length) (hc:p.Code.length≤2000) (l:List Int) (hl:Lead l p.Code.length) (hN:2000 < N):∀ (n i:Nat),i≤l.length→l.length - i < n →
    r10_Cut_l0 N n l ((List.range i).map (cutB p l)) (i:Int) p = some (1,(gD (.sl tB0)).dv ((List.range l.length).map (cutB p l)) []):=by
  intro n;have hL:=hl.len;induction n with
  | zero=>intro i h1 h2; omega
  | succ n ih =>
    intro i h1 h2;show r10_Cut_r0 N (r10_Cut_l0 N n) l _ (i:Int) p = _;unfold r10_Cut_r0;by_cases hi:i < l.length
    · have hw:=wS (show i≤100000000 by omega)
      have hfr:=hl.lo i (by omega);have hrec:=ih (i+1) (by omega) (by omega);rw [List.range_succ,List.map_append,List.map_cons,List.map_nil] at hrec;generalize hbs:(List.range i).map (cutB p l) = bs at *;have hbl:bs.length = i:=by rw [← hbs]; simp
      have hre:∀ x:D0,rm bs [x] 80 = true:=fun x=>rmT (by simp; omega)
      rw [lt_len hi];simp only [bi_true,idx_n hi,gd_true,Int.toNat_natCast,hw];have htb:0≤toM p l i - 1∧toM p l i - 1 < p.Code.length∧toM p l i - 1≤100000:=by
        unfold toM;split
        · rename_i hj
          have hto:=hl.lo (i+1) (by omega);have hup:=hl.up i (i+1) (by omega) (by omega);omega
        · simp only [len]; omega
      have key:∀ T:Int,T = toM p l i→(
          bi ((p.Code.getD (T - 1).toNat api_Ins.z).1 != 40) (
           bi ((p.Code.getD (T - 1).toNat api_Ins.z).1 != 41) (
            on1 (r10_find N l T)<|gg [pI]<|fun (x4:Int) =>
            on1 (r1_Target N p (T - 1))<|gg [pI]<|fun (x5:Int) =>
            bi (decide (x5≥0)) (
             on1 (r10_find N l x5)<|gg [pI]<|fun (x6:Int) =>
             gd (rm bs [((l.getD i 0,(T,(x4,(x6,((),((),())))))):D0)] 80) <|
             r10_Cut_l0 N n l (bs++[((l.getD i 0,(T,(x4,(x6,((),((),())))))):D0)]) ((i+1:Nat):Int) p) <|
            gd (rm bs [((l.getD i 0,(T,(x4,((-1:Int),((),((),())))))):D0)] 80) <|
            r10_Cut_l0 N n l (bs++[((l.getD i 0,(T,(x4,((-1:Int),((),((),())))))):D0)]) ((i+1:Nat):Int) p) <|
           on1 (r1_Target N p (T - 1))<|gg [pI]<|fun (x7:Int) =>
           bi (decide (x7≥0)) (
            on1 (r10_find N l x7)<|gg [pI]<|fun (x8:Int) =>
            gd (rm bs [((l.getD i 0,(T,((-1:Int),(x8,((),((),())))))):D0)] 80) <|
            r10_Cut_l0 N n l (bs++[((l.getD i 0,(T,((-1:Int),(x8,((),((),())))))):D0)]) ((i+1:Nat):Int) p) <|
           gd (rm bs [((l.getD i 0,(T,((-1:Int),((-1:Int),((),((),())))))):D0)] 80) <|
           r10_Cut_l0 N n l (bs++[((l.getD i 0,(T,((-1:Int),((-1:Int),((),((),())))))):D0)]) ((i+1:Nat):Int) p) <|
          on1 (r1_Target N p (T - 1))<|gg [pI]<|fun (x9:Int) =>
          bi (decide (x9≥0)) (
           on1 (r10_find N l x9)<|gg [pI]<|fun (x10:Int) =>
           gd (rm bs [((l.getD i 0,(T,((-1:Int),(x10,((),((),())))))):D0)] 80) <|
           r10_Cut_l0 N n l (bs++[((l.getD i 0,(T,((-1:Int),(x10,((),((),())))))):D0)]) ((i+1:Nat):Int) p) <|
          gd (rm bs [((l.getD i 0,(T,((-1:Int),((-1:Int),((),((),())))))):D0)] 80) <|
          r10_Cut_l0 N n l (bs++[((l.getD i 0,(T,((-1:Int),((-1:Int),((),((),())))))):D0)]) ((i+1:Nat):Int) p) = some (1,(gD (.sl tB0)).dv ((List.range l.length).map (cutB p l)) []):=by
        intro T hT;rw [← hT] at htb;simp only [find_ex l _ (show l.length≤2000 by omega) hN,Target_ex p (T - 1) htb.1 htb.2.1 (by omega),on1_some,gg_dv,gg_nil,hre,gd_true];rw [← hrec];unfold cutB;rw [← hT];unfold nxM tkM codeM;generalize p.Code.getD (T - 1).toNat api_Ins.z = c;generalize tgtM p (T - 1) = t;by_cases c1:c.1 = 40
        · rw [show (c.1 != 40) = false by rw [c1]; rfl,bi_false,if_neg (show ¬ (c.1≠40∧c.1≠41) by omega)]
          by_cases ht:t≥0
          · rw [dt ht,bi_true,if_pos ht]
          · rw [df ht,bi_false,if_neg ht]
        rw [show (c.1 != 40) = true from bne_iff_ne.2 c1,bi_true];by_cases c2:c.1 = 41
        · rw [show (c.1 != 41) = false by rw [c2]; rfl,bi_false,if_neg (show ¬ (c.1≠40∧c.1≠41) by omega)]
          by_cases ht:t≥0
          · rw [dt ht,bi_true,if_pos ht]
          · rw [df ht,bi_false,if_neg ht]
        rw [show (c.1 != 41) = true from bne_iff_ne.2 c2,bi_true,if_pos ⟨c1,c2⟩];by_cases ht:t≥0
        · rw [dt ht,bi_true,if_pos ht]
        · rw [df ht,bi_false,if_neg ht]
      by_cases hj:i+1 < l.length
      · have eT:toM p l i = l.getD (i+1) 0:=if_pos hj
        have hw2:w.i64 (l.getD (i+1) 0 - 1) = l.getD (i+1) 0 - 1:=wI (by rw [← eT]; omega) (by rw [← eT]; omega);rw [lt_len hj,bi_true,idx_n hj,gd_true];simp only [Int.toNat_natCast,hw2];rw [idx_t (i:=l.getD (i+1) 0 - 1) (n:=p.Code.length) (by rw [← eT]; omega) (by rw [← eT]; omega),gd_true];exact key _ eT.symm
      · have eT:toM p l i = len p.Code:=if_neg hj
        have hw2:w.i64 (len p.Code - 1) = len p.Code - 1:=wI (by rw [← eT]; omega) (by rw [← eT]; omega);rw [ge_len (by omega),bi_false];simp only [hw2];rw [idx_t (i:=len p.Code - 1) (n:=p.Code.length) (by rw [← eT]; omega) (by rw [← eT]; omega),gd_true];exact key _ eT.symm
    · have:i = l.length:=by omega
      subst this;rw [ge_len (by omega)];rfl
def cutM (p:api_Program):List D0:=(List.range (leadI p).length).map (cutB p (leadI p))
theorem Cut_ex (p:api_Program) (hN:2000 < N) (hr:rightP p = true):r10_Cut N p = some (0,(gD (.sl tB0)).dv (cutM p) []):=by
 unfold r10_Cut cutM;obtain ⟨hc1,hc2,_⟩:=rightP_Right hr;have hl:=leadI_Lead p;have:=hl.len;have h4:=cut_ex_loop (N:=N) p hc1 hc2 (leadI p) hl hN N 0 (by omega) (by omega);rw [Leaders_ex p hN hr,on1_some,gg_dv,gg_nil];rw [show r10_Cut_l0 N N (leadI p) [] 0 p = _ from h4];rfl
end Go.Proofs.Zz

/- The reference's owners and splits, word for word. -/
set_option maxRecDepth 100000
namespace Go.Proofs.Zz
open Go
variable {N:Nat}
/-! Owners that may be -/
def badI (o:List Int) (x:api_Ins):Bool :=
 (decide (formM x.1 = 4∨formM x.1 = 5) && onEM o x.2.2.1) || (decide (1≤formM x.1∧formM x.1≤3∧0 < x.2.1∧o.getD x.2.1.toNat 0 = 1) && anyEM o (readsM x))
def okOwn (o:List Int) (i:Nat):Bool:=decide (o.getD i 0 = 1∨o.getD i 0 = 2)
def closedM (p:api_Program) (o:List Int):Bool:=rightP p && (decide (o.getD 0 0 = 0) && ((List.range' 1 15).all (okOwn o) && !p.Code.any (badI o)))
theorem closed0_ex (p:api_Program) (o:List Int):∀ (n i:Nat),i≤16→16 - i < n →
  r10_Closed_l0 N n (i:Int) p o = if (List.range' i (16 - i)).all (okOwn o) = true then some (1,g_api_Program.dv p ((gD (.ar 16 tI)).dv o [])) else some (0,gB.dv false []):=by
 intro n;induction n with
 | zero=>intro i h1 h2; omega
 | succ n ih =>
  intro i h1 h2;show r10_Closed_r0 N (r10_Closed_l0 N n) (i:Int) p o = _;unfold r10_Closed_r0;by_cases hi:i < 16
  ·
   have hrec:=ih (i+1) (by omega) (by omega);rw [dt (show (i:Int) < 16 by omega),idx_n hi,wS (show i≤100000000 by omega),hrec,show 16 - i = (16 - (i+1))+1 by omega,List.range'_succ,List.all_cons];simp only [bi_true,gd_true,Int.toNat_natCast];unfold okOwn;generalize o.getD i 0 = v;generalize (List.range' (i+1) (16 - (i+1))).all _ = r;by_cases h1:v = 1
   · rw [show (v != 1) = false by rw [h1]; rfl,bi_false,dt (.inl h1),Bool.true_and]
   rw [show (v != 1) = true from bne_iff_ne.2 h1,bi_true];by_cases h2:v = 2
   · rw [show (v != 2) = false by rw [h2]; rfl,bi_false,dt (.inr h2),Bool.true_and]
   · rw [show (v != 2) = true from bne_iff_ne.2 h2,bi_true,df (by omega),Bool.false_and,if_neg (by simp)]
  ·
   have:i = 16:=by omega
   subst this;rfl
theorem bad_chain (x:api_Ins) (o:List Int) (r:Bool) :
  bi (formM x.1 == 4)
   (bi (onEM o x.2.2.1) (some (0,gB.dv false [])) (bi (decide (formM x.1≥1)) (bi (decide (formM x.1≤3)) (bi (decide (x.2.1 > 0)) (bi (o.getD x.2.1.toNat 0 == 1) (bi (anyEM o (readsM x)) (some (0,gB.dv false [])) (if r = true then some (0,gB.dv false []) else some (3,[]))) (if r = true then some (0,gB.dv false []) else some (3,[]))) (if r = true then some (0,gB.dv false []) else some (3,[]))) (if r = true then some (0,gB.dv false []) else some (3,[]))) (if r = true then some (0,gB.dv false []) else some (3,[]))))
   (bi (formM x.1 == 5)
    (bi (onEM o x.2.2.1) (some (0,gB.dv false [])) (bi (decide (formM x.1≥1)) (bi (decide (formM x.1≤3)) (bi (decide (x.2.1 > 0)) (bi (o.getD x.2.1.toNat 0 == 1) (bi (anyEM o (readsM x)) (some (0,gB.dv false [])) (if r = true then some (0,gB.dv false []) else some (3,[]))) (if r = true then some (0,gB.dv false []) else some (3,[]))) (if r = true then some (0,gB.dv false []) else some (3,[]))) (if r = true then some (0,gB.dv false []) else some (3,[]))) (if r = true then some (0,gB.dv false []) else some (3,[]))))
    (bi (decide (formM x.1≥1)) (bi (decide (formM x.1≤3)) (bi (decide (x.2.1 > 0)) (bi (o.getD x.2.1.toNat 0 == 1) (bi (anyEM o (readsM x)) (some (0,gB.dv false [])) (if r = true then some (0,gB.dv false []) else some (3,[]))) (if r = true then some (0,gB.dv false []) else some (3,[]))) (if r = true then some (0,gB.dv false []) else some (3,[]))) (if r = true then some (0,gB.dv false []) else some (3,[]))) (if r = true then some (0,gB.dv false []) else some (3,[])))) = (if (badI o x || r) = true then some (0,gB.dv false []) else some (3,[]):Option Rs):=by
 unfold badI;generalize onEM o x.2.2.1 = e;generalize anyEM o (readsM x) = a;generalize o.getD x.2.1.toNat 0 = v;generalize formM x.1 = f;have tail:∀ b:Bool,b = decide (1≤f∧f≤3∧0 < x.2.1∧v = 1)→bi (decide (f≥1)) (bi (decide (f≤3)) (bi (decide (x.2.1 > 0)) (bi (v == 1) (bi a (some (0,gB.dv false [])) (if r = true then some (0,gB.dv false []) else some (3,[]))) (if r = true then some (0,gB.dv false []) else some (3,[]))) (if r = true then some (0,gB.dv false []) else some (3,[]))) (if r = true then some (0,gB.dv false []) else some (3,[]))) (if r = true then some (0,gB.dv false []) else some (3,[])) = (if ((b && a) || r) = true then some (0,gB.dv false []) else some (3,[]):Option Rs):=by
  intro b hb;by_cases k1:f≥1
  ·
   rw [dt k1,bi_true];by_cases k2:f≤3
   ·
    rw [dt k2,bi_true];by_cases k3:x.2.1 > 0
    ·
     rw [dt k3,bi_true];by_cases k4:v = 1
     ·
      rw [bt k4,bi_true,hb,dt ⟨k1,k2,k3,k4⟩];cases a <;> cases r <;> rfl
     ·
      rw [bf k4,bi_false,hb,df (by omega)];cases a <;> cases r <;> rfl
    ·
     rw [df k3,bi_false,hb,df (by omega)];cases a <;> cases r <;> rfl
   ·
    rw [df k2,bi_false,hb,df (by omega)];cases a <;> cases r <;> rfl
  ·
   rw [df k1,bi_false,hb,df (by omega)];cases a <;> cases r <;> rfl
 have tl:=tail _ rfl;rw [tl];by_cases f4:f = 4
 ·
  rw [bt f4,bi_true,dt (show f = 4∨f = 5 from .inl f4),df (show ¬ (1≤f∧f≤3∧0 < x.2.1∧v = 1) by omega)];cases e <;> cases r <;> rfl
 rw [bf f4,bi_false];by_cases f5:f = 5
 ·
  rw [bt f5,bi_true,dt (show f = 4∨f = 5 from .inr f5),df (show ¬ (1≤f∧f≤3∧0 < x.2.1∧v = 1) by omega)];cases e <;> cases r <;> rfl
 rw [bf f5,bi_false,df (show ¬ (f = 4∨f = 5) by omega),Bool.false_and,Bool.false_or]
theorem closed2_ex (p:api_Program) (hc:Right p) (o:List Int) (hN:2000 < N):∀ (n i:Nat),i≤p.Code.length→p.Code.length - i < n →
  r10_Closed_l2 N n (i:Int) p o = if (p.Code.drop i).any (badI o) = true then some (0,gB.dv false []) else some (3,[]):=by
 obtain ⟨hc1,hc2,hc3⟩:=hc;intro n;induction n with
 | zero=>intro i h1 h2; omega
 | succ n ih =>
  intro i h1 h2;show r10_Closed_r2 N (r10_Closed_l2 N n) (i:Int) p o = _;unfold r10_Closed_r2;by_cases hi:i < p.Code.length
  ·
   obtain ⟨⟨d0,d1⟩,⟨a0,a1⟩,_⟩:=rightIns_regs (hc3 i hi);have hdrop:p.Code.drop i = p.Code.getD i api_Ins.z::p.Code.drop (i+1):=by
    rw [List.drop_eq_getElem_cons hi,List.getD_eq_getElem?_getD,List.getElem?_eq_getElem hi]; rfl
   have hrec:=ih (i+1) (by omega) (by omega);have hl1:=readsM_regs (p.Code.getD i api_Ins.z);have hl2:=readsM_len (p.Code.getD i api_Ins.z);rw [lt_len hi,hdrop,List.any_cons];simp only [bi_true,idx_n hi,gd_true,Int.toNat_natCast,r1_Form_is,r1_Reads_is,onE_ex o _ a1,anyE_ex o _ hl2 (fun x hx=>(hl1 x hx).2) hN,on1_some,gg_dv,gg_nil,wS (show i≤100000000 by omega),idx_t (i:=(p.Code.getD i api_Ins.z).2.1) (n:=16) d0 (by omega),hrec];exact bad_chain (p.Code.getD i api_Ins.z) o _
  ·
   have:i = p.Code.length:=by omega
   subst this;rw [ge_len (by omega),bi_false,List.drop_length];rfl
theorem Closed_ex (p:api_Program) (o:List Int) (hN:2000 < N):r10_Closed N p o = some (0,gB.dv (closedM p o) []):=by
 unfold r10_Closed closedM;rw [RightP_is p hN,on1_some,gg_dv,gg_nil];cases hr:rightP p with
 | false=>rfl
 | true =>
  have hc:=rightP_Right hr;rw [Bool.not_true,bi_false,idx_t (i:=0) (n:=16) (by omega) (by omega),gd_true,Bool.true_and];by_cases h0:o.getD 0 0 = 0
  ·
   rw [show (o.getD 0 0 != 0) = false by rw [h0]; rfl,bi_false,dt h0,Bool.true_and];have e1:=closed0_ex (N:=N) p o N 1 (by omega) (by omega);rw [show r10_Closed_l0 N N 1 p o = _ from e1];cases (List.range' 1 15).all (okOwn o) with
   | false=>rw [if_neg (by simp),onB_fst,gg_dv,gg_nil,Bool.false_and]
   | true =>
    have e2:=closed2_ex (N:=N) p hc o hN N 0 (by omega) (by have:=hc.2.1; omega);rw [List.drop_zero] at e2;rw [if_pos rfl,onB_snd _ _ (by decide),gg_dv,gg_dv,gg_nil,show r10_Closed_l2 N N 0 p o = _ from e2,Bool.true_and];cases p.Code.any (badI o) with
    | true=>rw [if_pos rfl,onB_fst,gg_dv,gg_nil]; rfl
    | false=>rw [if_neg (by simp),onB_snd _ _ (by decide),gg_nil]; rfl
  · rw [show (o.getD 0 0 != 0) = true from bne_iff_ne.2 h0,bi_true,df h0,Bool.false_and]
/-! Splits -/
def fromM (p:api_Program) (o:List Int) (f:Int) (k m:Nat):List (List api_Cell × List api_Cell):=(List.range' k m).map fun n=>emitM (codeM p n) o (n:Int) ((n:Int) - f)
def cellsOfA (p:api_Program) (o:List Int) (f:Int) (k m:Nat):List api_Cell:=(fromM p o f k m).flatMap (·.1)
def cellsOfE (p:api_Program) (o:List Int) (f:Int) (k m:Nat):List api_Cell:=(fromM p o f k m).flatMap (·.2)
theorem emitM_len (i:api_Ins) (o:List Int) (pc off:Int):(emitM i o pc off).1.length≤8∧(emitM i o pc off).2.length≤8:=by
 have:=sentOM_len i o;unfold emitM
 repeat' split
 all_goals simp
 all_goals omega
theorem with2_ex (ii nn i2:Int) (p:api_Program) (hc:Right p) (o:List Int) (rb:List api_Block) (ro so:List Int) (f t nx tk:Int) (hf:0≤f) (ht:t≤p.Code.length) (hN:2000 < N):∀ (n k:Nat) (A E:List api_Cell),f≤k→(k:Int)≤t→t - k < n→(A.length:Int)≤8*(k - f)→(E.length:Int)≤8*(k - f) →
  r10_With_l2 N n ii (k:Int) p.Code p.Size p.Data o rb ro nn i2 so f t nx tk A E = some (3,dvG UW (ii,p.Code,p.Size,p.Data,o,rb,ro,nn,i2,so,f,t,nx,tk,A++cellsOfA p o f k (t - k).toNat,E++cellsOfE p o f k (t - k).toNat,())):=by
 obtain ⟨hc1,hc2,hc3⟩:=hc;intro n;induction n with
 | zero=>intro k A E h0 h1 h2; omega
 | succ n ih =>
  intro k A E h0 h1 h2 hA hE;show r10_With_r2 N (r10_With_l2 N n) ii (k:Int) p.Code p.Size p.Data o rb ro nn i2 so f t nx tk A E = _;unfold r10_With_r2;by_cases hi:(k:Int) < t
  ·
   have hw:w.i64 ((k:Int) - f) = (k:Int) - f:=wI (by omega) (by omega);have hX:=emitM_len (p.Code.getD k api_Ins.z) o (k:Int) ((k:Int) - f);have hrec:=ih (k+1) (A++(emitM (p.Code.getD k api_Ins.z) o (k:Int) ((k:Int) - f)).1) (E++(emitM (p.Code.getD k api_Ins.z) o (k:Int) ((k:Int) - f)).2) (by omega) (by omega) (by omega) (by rw [List.length_append]; omega) (by rw [List.length_append]; omega);have hlA:=hA;have hlE:=hE;have hcA:cellsOfA p o f k (t - k).toNat = (emitM (p.Code.getD k api_Ins.z) o (k:Int) ((k:Int) - f)).1++cellsOfA p o f (k+1) (t - (k+1:Nat)).toNat:=by
    unfold cellsOfA fromM;rw [show (t - (k:Int)).toNat = (t - (k+1:Nat)).toNat+1 by omega,List.range'_succ,List.map_cons,List.flatMap_cons];rfl
   have hcE:cellsOfE p o f k (t - k).toNat = (emitM (p.Code.getD k api_Ins.z) o (k:Int) ((k:Int) - f)).2++cellsOfE p o f (k+1) (t - (k+1:Nat)).toNat:=by
    unfold cellsOfE fromM;rw [show (t - (k:Int)).toNat = (t - (k+1:Nat)).toNat+1 by omega,List.range'_succ,List.map_cons,List.flatMap_cons];rfl
   rw [dt hi,hcA,hcE];simp only [bi_true,idx_n (show k < p.Code.length by omega),gd_true,Int.toNat_natCast,hw,Emit_ex _ o _ _ hN,on1_some,gg_dv,gg_nil,wS (show k≤100000000 by omega)];rw [rmT (show (A.length+(emitM (p.Code.getD k api_Ins.z) o (k:Int) ((k:Int) - f)).1.length)*72≤35184372088832 by omega),gd_true,rmT (show (E.length+(emitM (p.Code.getD k api_Ins.z) o (k:Int) ((k:Int) - f)).2.length)*72≤35184372088832 by omega),gd_true,hrec];simp only [List.append_assoc]
  ·
   rw [df hi];have:(t - (k:Int)).toNat = 0:=by omega
   rw [this];unfold cellsOfA cellsOfE fromM;simp only [List.range'_zero,List.map_nil,List.flatMap_nil,List.append_nil];rfl
def fillB (p:api_Program) (o:List Int) (v:D0):api_Block:=(v.1,(v.2.1,(v.2.2.1,(v.2.2.2.1,(cellsOfA p o v.1 v.1.toNat (v.2.1 - v.1).toNat,(cellsOfE p o v.1 v.1.toNat (v.2.1 - v.1).toNat,()))))))
theorem st_ex (p:api_Program) (hc:Right p) (o:List Int) (rb:List api_Block) (ro so:List Int) (n i:Int) (h0:0≤i) (h1:i < n) (h2:n≤2000) (v:D0) (hv0:0≤v.1) (hv1:v.1≤v.2.1) (hv2:v.2.1≤p.Code.length) (hN:2000 < N) :
  st_W N n i (dvG XW (p.Code,p.Size,p.Data,o,rb,ro,())) (dvG SW (so,())) v = some (dvG XW (p.Code,p.Size,p.Data,o,rb,ro,()),dvG SW (so,()),fillB p o v):=by
 have h3:=with2_ex (N:=N) i n i p hc o rb ro so v.1 v.2.1 v.2.2.1 v.2.2.2.1 hv0 hv2 hN N v.1.toNat [] [] (by omega) (by omega) (by have:=hc.2.1; omega) (by simp; omega) (by simp; omega);rw [show ((v.1.toNat:Nat):Int) = v.1 by omega,List.nil_append,List.nil_append] at h3;unfold st_W;refine (gg_dvG XW _ (p.Code,p.Size,p.Data,o,rb,ro,())).trans ?_;refine (gg_dvG SW _ (so,())).trans ?_;show onA 3 (r10_With_l2 N N i v.1 p.Code p.Size p.Data o rb ro n i so v.1 v.2.1 v.2.2.1 v.2.2.2.1 [] []) _ = _;rw [h3,onA_some];refine (gg_dvG UW _ (i,p.Code,p.Size,p.Data,o,rb,ro,n,i,so,v.1,v.2.1,v.2.2.1,v.2.2.2.1,_,_,())).trans ?_;show stW n i i n i _ = _;unfold stW;rw [if_pos ⟨h0,h1,rfl,rfl,rfl,wS' h0 (by omega)⟩];rfl
theorem walk_ex (p:api_Program) (hc:Right p) (o:List Int) (rb:List api_Block) (ro so:List Int) (n:Int) (h2:n≤2000) (hN:2000 < N):∀ (rest:List D0) (i:Int),0≤i→i+rest.length = n→(∀ v∈rest,0≤v.1∧v.1≤v.2.1∧v.2.1≤p.Code.length) →
  (ol_W N).walk n rest i (dvG XW (p.Code,p.Size,p.Data,o,rb,ro,())) (dvG SW (so,())) = some (dvG XW (p.Code,p.Size,p.Data,o,rb,ro,()),dvG SW (so,()),rest.map (fillB p o))
 | [],i,_,_,_=>rfl
 | v::rest,i,h0,h1,hv=>by
  simp only [List.length_cons] at h1;obtain ⟨g1,g2,g3⟩:=hv v (by simp);have h3:=st_ex (N:=N) p hc o rb ro so n i h0 (by omega) h2 v g1 g2 g3 hN;have h6:=walk_ex p hc o rb ro so n h2 hN rest (i+1) (by omega) (by omega) (fun u hu=>hv u (by simp [hu]));have h3':(ol_W N).step n i (dvG XW (p.Code,p.Size,p.Data,o,rb,ro,())) (dvG SW (so,())) v = some (dvG XW (p.Code,p.Size,p.Data,o,rb,ro,()),dvG SW (so,()),fillB p o v):=h3;refine (OL.walk_cons (ol_W N) n v rest i _ _).trans ?_;rw [h3'];simp only [];rw [h6];rfl
theorem cutM_len (p:api_Program):(cutM p).length = (leadI p).length:=by unfold cutM; simp
theorem cutM_blk {p:api_Program} (h:rightP p = true):∀ v∈cutM p,0≤v.1∧v.1 < v.2.1∧v.2.1≤p.Code.length:=by
 intro v hv;unfold cutM at hv;obtain ⟨i,hi,rfl⟩:=List.mem_map.1 hv;have hi:=List.mem_range.1 hi;have hl:=leadI_Lead p;have h1:=hl.lo i hi;unfold cutB toM;simp only;split
 ·
  rename_i hj;have h2:=hl.lo (i+1) hj;have h3:=hl.up i (i+1) (by omega) hj;omega
 · simp only [len]; omega
def withS (p:api_Program) (o:List Int):api_Split:=if closedM p o = true then ⟨(cutM p).map (fillB p o),o⟩ else ⟨[],List.replicate 16 0⟩
def withE (p:api_Program) (o:List Int):Int:=if closedM p o = true then 0 else 1
theorem closedM_right {p:api_Program} {o:List Int} (h:closedM p o = true):rightP p = true:=by
 unfold closedM at h;simp only [Bool.and_eq_true] at h;exact h.1
theorem With_ex (p:api_Program) (o:List Int) (hN:2000 < N):r10_With N p o = some (0,g_api_Split.dv (withS p o) (gI.dv (withE p o) [])):=by
 unfold r10_With withS withE;rw [Closed_ex p o hN,on1_some,gg_dv,gg_nil];cases hcl:closedM p o with
 | false=>rfl
 | true =>
  have hr:=closedM_right hcl;have hc:=rightP_Right hr;have hcl2:=cutM_len p;have hll:=(leadI_Lead p).len;have hc2:=hc.2.1;have h5:=walk_ex (N:=N) p hc o [] (List.replicate 16 0) o ((cutM p).length:Int) (by omega) hN (cutM p) 0 (by omega) (by omega) (fun v hv=>by have:=cutM_blk hr v hv; omega);have hl:r10_With_l0 N N 0 p.Code p.Size p.Data o [] (List.replicate 16 0) (cutM p) o = some (1,dvG LX (p.Code,p.Size,p.Data,o,[],List.replicate 16 0,(cutM p).map (fillB p o),o,())):=by
   unfold r10_With_l0;rw [if_pos rfl,h5];rfl
  rw [Bool.not_true,bi_false,Cut_ex p hN hr,on1_some,if_pos rfl,if_pos rfl];refine (gg_dv _ _ _ _ _).trans ?_;rw [gg_nil];show onA 1 (r10_With_l0 N N 0 p.Code p.Size p.Data o [] (List.replicate 16 0) (cutM p) o) _ = _;rw [hl,onA_some];exact gg_dvG LX _ (p.Code,p.Size,p.Data,o,[],List.replicate 16 0,(cutM p).map (fillB p o),o,())
/-! The owners with the fewest on A -/
def giveM (o:List Int) (x:api_Ins):List Int :=
 let o1:=if (formM x.1 = 4∨formM x.1 = 5)∧0 < x.2.2.1 then o.set x.2.2.1.toNat 1 else o
 if 1≤formM x.1∧formM x.1≤3∧0 < x.2.1∧o1.getD x.2.1.toNat 0 = 1 then (readsM x).foldl (fun o r=>o.set r.toNat 1) o1 else o1
def ownN (p:api_Program):Nat→List Int→List Int
 | 0,o=>o
 | n+1,o=>ownN p n (p.Code.foldl giveM o)
def ownerM (p:api_Program):List Int:=if rightP p = true then ownN p 17 (0::List.replicate 15 2) else List.replicate 16 0
theorem own0_ex (p:api_Program) (o1:List Int):∀ (n i:Nat) (o:List Int),i≤16→16 - i < n →
  r10_Owner_l0 N n (i:Int) p o1 o = some (1,g_api_Program.dv p ((gD (.ar 16 tI)).dv o1 ((gD (.ar 16 tI)).dv ((List.range' i (16 - i)).foldl (fun o k=>o.set k 2) o) []))):=by
 intro n;induction n with
 | zero=>intro i o h1 h2; omega
 | succ n ih =>
  intro i o h1 h2;show r10_Owner_r0 N (r10_Owner_l0 N n) (i:Int) p o1 o = _;unfold r10_Owner_r0;by_cases hi:i < 16
  · rw [dt (show (i:Int) < 16 by omega),idx_n hi,bi_true,gd_true,wS (by omega),Int.toNat_natCast,ih _ _ (by omega) (by omega),show 16 - i = (16 - (i+1))+1 by omega,List.range'_succ,List.foldl_cons]
  ·
   have:i = 16:=by omega
   subst this;rfl
theorem own6_ex (a b:Int) (l:List Int) (hl:l.length≤100) (hb:∀ x∈l,1≤x∧x≤15) (p:api_Program) (o1:List Int):∀ (n i:Nat) (o:List Int),i≤l.length→l.length - i < n →
  r10_Owner_l6 N n a b l (i:Int) p o1 o = some (7,gI.dv a (gI.dv b (g_api_Program.dv p ((gD (.ar 16 tI)).dv o1 ((gD (.ar 16 tI)).dv ((l.drop i).foldl (fun o r=>o.set r.toNat 1) o) []))))):=by
 intro n;induction n with
 | zero=>intro i o h1 h2; omega
 | succ n ih =>
  intro i o h1 h2;show r10_Owner_r6 N (r10_Owner_l6 N n) a b l (i:Int) p o1 o = _;unfold r10_Owner_r6;by_cases hi:i < l.length
  ·
   have hm:=hb _ (getD_mem 0 hi);have hdrop:l.drop i = l.getD i 0::l.drop (i+1):=by
    rw [List.drop_eq_getElem_cons hi,List.getD_eq_getElem?_getD,List.getElem?_eq_getElem hi]; rfl
   rw [lt_len hi,bi_true,idx_n hi,gd_true,Int.toNat_natCast,idx_t (i:=l.getD i 0) (n:=16) (by omega) (by omega),gd_true,wS (by omega),ih _ _ (by omega) (by omega),hdrop,List.foldl_cons]
  ·
   have:i = l.length:=by omega
   subst this;rw [ge_len (by omega),bi_false,List.drop_length];rfl
theorem own4_ex (a:Int) (p:api_Program) (hc:Right p) (o1:List Int) (hN:2000 < N):∀ (n i:Nat) (o:List Int),i≤p.Code.length→p.Code.length - i < n →
  r10_Owner_l4 N n a (i:Int) p o1 o = some (5,gI.dv a (g_api_Program.dv p ((gD (.ar 16 tI)).dv o1 ((gD (.ar 16 tI)).dv ((p.Code.drop i).foldl giveM o) [])))):=by
 obtain ⟨hc1,hc2,hc3⟩:=hc;intro n;induction n with
 | zero=>intro i o h1 h2; omega
 | succ n ih =>
  intro i o h1 h2;show r10_Owner_r4 N (r10_Owner_l4 N n) a (i:Int) p o1 o = _;unfold r10_Owner_r4;by_cases hi:i < p.Code.length
  ·
   obtain ⟨⟨d0,d1⟩,⟨a0,a1⟩,_⟩:=rightIns_regs (hc3 i hi);have hdrop:p.Code.drop i = p.Code.getD i api_Ins.z::p.Code.drop (i+1):=by
    rw [List.drop_eq_getElem_cons hi,List.getD_eq_getElem?_getD,List.getElem?_eq_getElem hi]; rfl
   have hrec:=fun o=>ih (i+1) o (by omega) (by omega)
   have hl1:=readsM_regs (p.Code.getD i api_Ins.z);have hl2:=readsM_len (p.Code.getD i api_Ins.z);have h6:=fun o=>own6_ex (N:=N) a (i:Int) (readsM (p.Code.getD i api_Ins.z)) (by omega) hl1 p o1 N 0 o (by omega) (by omega)
   simp only [List.drop_zero,Int.natCast_zero] at h6;rw [lt_len hi,hdrop,List.foldl_cons];simp only [bi_true,idx_n hi,gd_true,Int.toNat_natCast,r1_Form_is,r1_Reads_is,on1_some,gg_dv,gg_nil,wS (show i≤100000000 by omega),idx_t (i:=(p.Code.getD i api_Ins.z).2.2.1) (n:=16) a0 (by omega),idx_t (i:=(p.Code.getD i api_Ins.z).2.1) (n:=16) d0 (by omega),h6,onA_some,hrec];unfold giveM;simp only [bi_if,beq_iff_eq,decide_eq_true_eq];by_cases f4:formM (p.Code.getD i api_Ins.z).1 = 4
   ·
    rw [if_pos f4];by_cases ha:(p.Code.getD i api_Ins.z).2.2.1 > 0
    · rw [if_pos ha,if_pos (show formM (p.Code.getD i api_Ins.z).1≥1 by omega),if_neg (show ¬ formM (p.Code.getD i api_Ins.z).1≤3 by omega),if_pos (show (formM (p.Code.getD i api_Ins.z).1 = 4∨formM (p.Code.getD i api_Ins.z).1 = 5)∧0 < (p.Code.getD i api_Ins.z).2.2.1 by omega),if_neg (by omega)]
    · rw [if_neg ha,if_pos (show formM (p.Code.getD i api_Ins.z).1≥1 by omega),if_neg (show ¬ formM (p.Code.getD i api_Ins.z).1≤3 by omega),if_neg (show ¬ ((formM (p.Code.getD i api_Ins.z).1 = 4∨formM (p.Code.getD i api_Ins.z).1 = 5)∧0 < (p.Code.getD i api_Ins.z).2.2.1) by omega),if_neg (by omega)]
   rw [if_neg f4];by_cases f5:formM (p.Code.getD i api_Ins.z).1 = 5
   ·
    rw [if_pos f5];by_cases ha:(p.Code.getD i api_Ins.z).2.2.1 > 0
    · rw [if_pos ha,if_pos (show formM (p.Code.getD i api_Ins.z).1≥1 by omega),if_neg (show ¬ formM (p.Code.getD i api_Ins.z).1≤3 by omega),if_pos (show (formM (p.Code.getD i api_Ins.z).1 = 4∨formM (p.Code.getD i api_Ins.z).1 = 5)∧0 < (p.Code.getD i api_Ins.z).2.2.1 by omega),if_neg (by omega)]
    · rw [if_neg ha,if_pos (show formM (p.Code.getD i api_Ins.z).1≥1 by omega),if_neg (show ¬ formM (p.Code.getD i api_Ins.z).1≤3 by omega),if_neg (show ¬ ((formM (p.Code.getD i api_Ins.z).1 = 4∨formM (p.Code.getD i api_Ins.z).1 = 5)∧0 < (p.Code.getD i api_Ins.z).2.2.1) by omega),if_neg (by omega)]
   rw [if_neg f5,if_neg (show ¬ ((formM (p.Code.getD i api_Ins.z).1 = 4∨formM (p.Code.getD i api_Ins.z).1 = 5)∧0 < (p.Code.getD i api_Ins.z).2.2.1) by omega)];by_cases f1:formM (p.Code.getD i api_Ins.z).1≥1
   ·
    rw [if_pos f1];by_cases f3:formM (p.Code.getD i api_Ins.z).1≤3
    ·
     rw [if_pos f3];by_cases hd:(p.Code.getD i api_Ins.z).2.1 > 0
     ·
      rw [if_pos hd];by_cases hv:o.getD (p.Code.getD i api_Ins.z).2.1.toNat 0 = 1
      · rw [if_pos hv,if_pos ⟨f1,f3,hd,hv⟩]
      · rw [if_neg hv,if_neg (by omega)]
     · rw [if_neg hd,if_neg (by omega)]
    · rw [if_neg f3,if_neg (by omega)]
   · rw [if_neg f1,if_neg (by omega)]
  ·
   have:i = p.Code.length:=by omega
   subst this;rw [ge_len (by omega),bi_false,List.drop_length];rfl
theorem own2_ex (p:api_Program) (hc:Right p) (o1:List Int) (hN:2000 < N):∀ (n i:Nat) (o:List Int),i≤17→17 - i < n →
  r10_Owner_l2 N n (i:Int) p o1 o = some (3,(gD (.ar 16 tI)).dv o1 ((gD (.ar 16 tI)).dv (ownN p (17 - i) o) [])):=by
 intro n;induction n with
 | zero=>intro i o h1 h2; omega
 | succ n ih =>
  intro i o h1 h2;show r10_Owner_r2 N (r10_Owner_l2 N n) (i:Int) p o1 o = _;unfold r10_Owner_r2;by_cases hi:i < 17
  ·
   have h:=own4_ex (N:=N) (i:Int) p hc o1 hN N 0 o (by omega) (by have:=hc.2.1; omega);rw [dt (show (i:Int) < 17 by omega),bi_true,show (0:Int) = ((0:Nat):Int) from rfl,h];simp only [onA_some,gg_dv,gg_nil,wS (show i≤100000000 by omega),List.drop_zero];rw [ih _ _ (by omega) (by omega),show 17 - i = (17 - (i+1))+1 by omega];rfl
  ·
   have:i = 17:=by omega
   subst this;rfl
theorem Owner_ex (p:api_Program) (hN:2000 < N):r10_Owner N p = some (0,(gD (.ar 16 tI)).dv (ownerM p) []):=by
 unfold r10_Owner ownerM;rw [RightP_is p hN,on1_some,gg_dv,gg_nil];cases hr:rightP p with
 | false=>rfl
 | true =>
  have h:=own0_ex (N:=N) p (List.replicate 16 0) N 1 (List.replicate 16 0) (by omega) (by omega);have h2:=own2_ex (N:=N) p (rightP_Right hr) (List.replicate 16 0) hN N 0 (0::List.replicate 15 2) (by omega) (by omega);rw [Bool.not_true,bi_false,show r10_Owner_l0 N N 1 p (List.replicate 16 0) (List.replicate 16 0) = _ from h,onA_some];simp only [gg_dv,gg_nil];rw [show (List.range' 1 (16 - 1)).foldl (fun o k=>o.set k 2) (List.replicate 16 (0:Int)) = 0::List.replicate 15 2 from rfl,show r10_Owner_l2 N N 0 p (List.replicate 16 0) (0::List.replicate 15 2) = _ from h2,onA_some];simp only [gg_dv,gg_nil,if_true,Nat.sub_zero]
theorem Split_ex (p:api_Program) (hN:2000 < N):r10_Split N p = some (0,g_api_Split.dv (withS p (ownerM p)) (gI.dv (withE p (ownerM p)) [])):=by
 unfold r10_Split;simp only [Owner_ex p hN,on1_some,gg_dv,gg_nil,With_ex p _ hN]
end Go.Proofs.Zz

/- The streams over a split: blocks, cells, where a stream settles. -/
set_option maxRecDepth 100000
namespace Go.Proofs.Zz
open Go
def emS (e:Bool) (i:api_Ins) (o:List Int) (pc off:Int):List api_Cell:=if e = true then (emitM i o pc off).2 else (emitM i o pc off).1
def cellsS (e:Bool) (p:api_Program) (o:List Int) (f:Int) (k m:Nat):List api_Cell:=if e = true then cellsOfE p o f k m else cellsOfA p o f k m
theorem cellsS_zero (e:Bool) (p:api_Program) (o:List Int) (f:Int) (k:Nat):cellsS e p o f k 0 = []:=by
 unfold cellsS cellsOfA cellsOfE fromM;cases e <;> rfl
theorem cellsS_succ (e:Bool) (p:api_Program) (o:List Int) (f:Int) (k m:Nat):cellsS e p o f k (m+1) = emS e (codeM p k) o (k:Int) ((k:Int) - f)++cellsS e p o f (k+1) m:=by
 unfold cellsS cellsOfA cellsOfE fromM emS;cases e <;> simp only [Bool.false_eq_true,if_false,if_true,List.range'_succ,List.map_cons,List.flatMap_cons]
theorem cellsS_add (e:Bool) (p:api_Program) (o:List Int) (f:Int):∀ (a k b:Nat),cellsS e p o f k (a+b) = cellsS e p o f k a++cellsS e p o f (k+a) b
 | 0,k,b=>by rw [cellsS_zero,Nat.zero_add,List.nil_append,Nat.add_zero]
 | a+1,k,b=>by
  rw [show a+1+b = (a+b)+1 by omega,cellsS_succ,cellsS_add e p o f a (k+1) b,cellsS_succ,List.append_assoc,show k+1+a = k+(a+1) by omega]
structure Spl (p:api_Program) (o:List Int) (s:api_Split):Prop where
 eq:s = ⟨(cutM p).map (fillB p o),o⟩
 cl:closedM p o = true
theorem Spl.of {p:api_Program} {o:List Int} (h:closedM p o = true):Spl p o (withS p o):=⟨by unfold withS; rw [if_pos h],h⟩
def frB (p:api_Program) (k:Nat):Int:=(leadI p).getD k 0
def toB (p:api_Program) (k:Nat):Int:=toM p (leadI p) k
section
variable {p:api_Program} {o:List Int} {s:api_Split} (h:Spl p o s)
include h
theorem Spl.right:rightP p = true:=closedM_right h.cl
theorem Spl.len:s.Blocks.length = (leadI p).length:=by rw [h.eq]; simp [cutM_len]
theorem Spl.blk {k:Nat} (hk:k < (leadI p).length):s.Blocks.getD k api_Block.z = fillB p o (cutB p (leadI p) k):=by
 rw [h.eq];simp only;rw [List.getD_eq_getElem?_getD,List.getElem?_map];have:(cutM p)[k]? = some (cutB p (leadI p) k):=by
  unfold cutM;rw [List.getElem?_map,List.getElem?_range hk];rfl
 rw [this];rfl
theorem Spl.has (b:Int):hasM s b = true↔0≤b∧b < (leadI p).length:=by
 unfold hasM;rw [decide_eq_true_eq];simp only [Zz.len,h.len]
theorem Spl.bounds {k:Nat} (hk:k < (leadI p).length):0≤frB p k∧frB p k < toB p k∧toB p k≤p.Code.length∧p.Code.length≤2000:=by
 have hm:cutB p (leadI p) k∈cutM p:=by
  unfold cutM;exact List.mem_map.2 ⟨k,List.mem_range.2 hk,rfl⟩
 have:=cutM_blk h.right _ hm;exact ⟨this.1,this.2.1,this.2.2,(rightP_Right h.right).2.1⟩
theorem Spl.cells {k:Nat} (hk:k < (leadI p).length) (e:Bool):cellsM s e (k:Int) = cellsS e p o (frB p k) (frB p k).toNat (toB p k - frB p k).toNat:=by
 unfold cellsM blockM;rw [if_pos ((h.has _).2 ⟨by omega,by omega⟩),Int.toNat_natCast,h.blk hk];cases e <;> rfl
theorem Spl.block {k:Nat} (hk:k < (leadI p).length):(blockM s (k:Int)).1 = frB p k∧(blockM s (k:Int)).2.1 = toB p k∧(blockM s (k:Int)).2.2.1 = nxM p (leadI p) (toB p k)∧(blockM s (k:Int)).2.2.2.1 = tkM p (leadI p) (toB p k):=by
 unfold blockM;rw [Int.toNat_natCast,h.blk hk];exact ⟨rfl,rfl,rfl,rfl⟩
theorem Spl.end_ {k:Nat} (hk:k < (leadI p).length) {pos:api_Pos} (hb:pos.Block = (k:Int)) (h0:-1000000000≤pos.Base) (h1:pos.Base≤1000000000000):endM s pos = pos.Base+toB p k - frB p k:=by
 have hbd:=h.bounds hk;unfold endM;rw [hb,if_pos ((h.has _).2 ⟨by omega,by omega⟩),(h.block hk).1,(h.block hk).2.1,wI (x:=pos.Base+toB p k) (by omega) (by omega),wI (by omega) (by omega)]
end
theorem leadI_zero {p:api_Program} (h:rightP p = true):0 < (leadI p).length∧frB p 0 = 0:=by
 have hc:=rightP_Right h;have h1:=hc.1;unfold frB leadI leadM;obtain ⟨m,hm⟩:∃ m,p.Code.length = m+1:=⟨p.Code.length - 1,by omega⟩
 rw [hm,List.range_succ_eq_map,List.filter_cons_of_pos (by unfold markM; simp)];exact ⟨by simp,rfl⟩
theorem lead_of_mark {p:api_Program} {n:Nat} (hn:n < p.Code.length) (hm:markM p p.Code.length n = true):∃ k:Nat,k < (leadI p).length∧frB p k = (n:Int)∧findL (leadI p) (n:Int) = (k:Int):=by
 have hmem:(n:Int)∈leadI p:=by
  unfold leadI leadM;exact List.mem_map.2 ⟨n,List.mem_filter.2 ⟨List.mem_range.2 hn,hm⟩,rfl⟩
 have hlt:=List.idxOf_lt_length_of_mem hmem;refine ⟨List.idxOf (n:Int) (leadI p),hlt,?_,?_⟩
 ·
  unfold frB;rw [List.getD_eq_getElem?_getD,List.getElem?_eq_getElem hlt,Option.getD_some];exact List.getElem_idxOf hlt
 ·
  unfold findL;rw [if_pos hmem]
theorem find_lead {p:api_Program} {k:Nat} (hk:k < (leadI p).length):findL (leadI p) (frB p k) = (k:Int):=by
 have hl:=leadI_Lead p;unfold findL frB;have hg:(leadI p).getD k 0 = (leadI p)[k]:=by rw [List.getD_eq_getElem?_getD,List.getElem?_eq_getElem hk]; rfl
 have hmem:(leadI p).getD k 0∈leadI p:=by rw [hg]; exact List.getElem_mem _
 have hlt:=List.idxOf_lt_length_of_mem hmem;rw [if_pos hmem];have he:(leadI p).getD (List.idxOf ((leadI p).getD k 0) (leadI p)) 0 = (leadI p).getD k 0:=by
  rw [List.getD_eq_getElem?_getD,List.getElem?_eq_getElem hlt,Option.getD_some];exact List.getElem_idxOf hlt
 have:List.idxOf ((leadI p).getD k 0) (leadI p) = k:=by
  rcases Nat.lt_trichotomy (List.idxOf ((leadI p).getD k 0) (leadI p)) k with h | h | h
  · have:=hl.up _ k h hk; omega
  · exact h
  · have:=hl.up k _ h hlt; omega
 rw [this]
theorem to_next {p:api_Program} (h:rightP p = true) {k:Nat} (hk:k < (leadI p).length):(k+1 < (leadI p).length∧toB p k = frB p (k+1))∨(k+1 = (leadI p).length∧toB p k = p.Code.length):=by
 unfold toB toM frB;by_cases hj:k+1 < (leadI p).length
 · rw [if_pos hj]; exact .inl ⟨hj,rfl⟩
 · rw [if_neg hj]; exact .inr ⟨by omega,rfl⟩
theorem find_end (p:api_Program):findL (leadI p) (len p.Code) = -1:=by
 unfold findL;rw [if_neg];intro h;have hl:=leadI_Lead p;obtain ⟨k,hk,e⟩:=List.mem_iff_getElem.1 h;have:=hl.lo k hk;rw [List.getD_eq_getElem?_getD,List.getElem?_eq_getElem hk,Option.getD_some,e] at this;simp only [len] at this;omega
def CellAt (ks:List Int) (pc off:Int) (c:api_Cell):Prop:=c.2.2.2.1 = pc∧c.2.2.2.2.1 = off∧c.1∈ks∧InsK c.1 c.2.1
theorem at_I {ks:List Int} {kd pc off:Int} {i:api_Ins} (hk:kd∈ks) (hx:InsK kd i):CellAt ks pc off (cellI kd i pc off):=⟨rfl,rfl,hk,hx⟩
theorem at_R {ks:List Int} {kd r pc off:Int} (hk:kd∈ks) (h:4 < kd):CellAt ks pc off (cellR kd r pc off):=⟨rfl,rfl,hk,insK_no (by show kd≠2; omega) (by show kd≠3; omega) (by show kd≠4; omega)⟩
theorem emitM_at (i:api_Ins) (o:List Int) (pc off:Int):(∀ c∈(emitM i o pc off).1,CellAt KA pc off c)∧∀ c∈(emitM i o pc off).2,CellAt KE pc off c:=by
 unfold emitM;cases hr:rightIns i with
 | false=>rw [if_pos rfl]; exact ⟨by simp,by simp⟩
 | true =>
  rw [if_neg (by simp)];obtain ⟨hd,_⟩:=rightIns_regs hr;have m:∀ {ks:List Int} {kd:Int},kd∈ks→4 < kd→∀ l:List Int,∀ c∈l.map (fun r=>cellR kd r pc off),CellAt ks pc off c:=by
   intro ks kd hk h l c hc;obtain ⟨r,_,rfl⟩:=List.mem_map.1 hc;exact at_R hk h
  have n1:∀ ks:List Int,1∈ks→CellAt ks pc off (cellI 1 i pc off):=fun ks h=>at_I h (insK_no (by decide) (by decide) (by decide))
  have n9:∀ ks:List Int,9∈ks→CellAt ks pc off (cellI 9 i pc off):=fun ks h=>at_I h (insK_no (by decide) (by decide) (by decide))
  have one:∀ {ks:List Int} {a:api_Cell},CellAt ks pc off a→∀ c∈[a],CellAt ks pc off c:=by
   intro ks a h c hc;rw [List.mem_singleton.1 hc]; exact h
  have two:∀ {ks:List Int} {a b:List api_Cell},(∀ c∈a,CellAt ks pc off c)→(∀ c∈b,CellAt ks pc off c)→∀ c∈a++b,CellAt ks pc off c:=fun h g c hc=>(List.mem_append.1 hc).elim (h c) (g c)
  have none:∀ ks:List Int,∀ c∈([]:List api_Cell),CellAt ks pc off c:=by simp
  split
  ·
   split
   · exact ⟨one (n1 _ (by decide)),none _⟩
   · exact ⟨m (by decide) (by decide) _,two (m (by decide) (by decide) _) (one (n1 _ (by decide)))⟩
  split
  ·
   rename_i h4;have hl:∀ kd:Int,kd≠4→InsK kd i:=fun kd h=>insK_ld hd (bt h4) h
   split
   · exact ⟨one (at_I (by decide) (hl 3 (by decide))),one (at_I (by decide) (hl 7 (by decide)))⟩
   · exact ⟨one (at_I (by decide) (hl 2 (by decide))),none _⟩
  split
  ·
   rename_i h5;have hs:InsK 4 i:=insK_st (bt h5) (by decide) (by decide);split
   · exact ⟨two (one (at_R (by decide) (by decide))) (one (at_I (by decide) hs)),two (one (at_R (by decide) (by decide))) (one (at_R (by decide) (by decide)))⟩
   · exact ⟨one (at_I (by decide) hs),one (at_R (by decide) (by decide))⟩
  split
  ·
   split
   · exact ⟨one (n9 _ (by decide)),one (at_R (by decide) (by decide))⟩
   · exact ⟨two (m (by decide) (by decide) _) (one (at_R (by decide) (by decide))),two (m (by decide) (by decide) _) (one (n9 _ (by decide)))⟩
  split
  · exact ⟨one (at_R (by decide) (by decide)),one (at_R (by decide) (by decide))⟩
  split
  · exact ⟨one (at_R (by decide) (by decide)),one (at_R (by decide) (by decide))⟩
  · exact ⟨none _,none _⟩
theorem flat_len {α β:Type} (f:α→List β) (m:Nat):∀ l:List α,(∀ a∈l,(f a).length≤m)→(l.flatMap f).length≤m*l.length
 | [],_=>by simp
 | a::l,h=>by
  rw [List.flatMap_cons,List.length_append,List.length_cons];have h1:=flat_len f m l (fun b hb=>h b (by simp [hb]));have h2:=h a (by simp);rw [Nat.mul_succ];omega
theorem cellsO_len (p:api_Program) (o:List Int) (f:Int) (k m:Nat):(cellsOfA p o f k m).length≤8*m∧(cellsOfE p o f k m).length≤8*m:=by
 have hl:(fromM p o f k m).length = m:=by unfold fromM; simp
 have hm:∀ a∈fromM p o f k m,a.1.length≤8∧a.2.length≤8:=by
  intro a ha;unfold fromM at ha;obtain ⟨n,_,rfl⟩:=List.mem_map.1 ha;exact emitM_len _ _ _ _
 constructor
 ·
  have:=flat_len (fun a:List api_Cell × List api_Cell=>a.1) 8 _ (fun a ha=>(hm a ha).1);rw [hl] at this;exact this
 ·
  have:=flat_len (fun a:List api_Cell × List api_Cell=>a.2) 8 _ (fun a ha=>(hm a ha).2);rw [hl] at this;exact this
theorem span_ok (p:api_Program) (o:List Int) {f t:Int} (h0:0≤f) (h1:f < t):SpanOk KA f t (cellsOfA p o f f.toNat (t - f).toNat)∧SpanOk KE f t (cellsOfE p o f f.toNat (t - f).toNat):=by
 have hl:=cellsO_len p o f f.toNat (t - f).toNat
 have key:∀ (ks:List Int) (g:List api_Cell × List api_Cell→List api_Cell),(∀ i pc off,∀ c∈g (emitM i o pc off),CellAt ks pc off c)→∀ c∈(fromM p o f f.toNat (t - f).toNat).flatMap g,(f≤c.2.2.2.1∧c.2.2.2.1 < t∧c.2.2.2.2.1 = c.2.2.2.1 - f)∧c.1∈ks∧InsK c.1 c.2.1:=by
  intro ks g hg c hc;obtain ⟨a,ha,hc⟩:=List.mem_flatMap.1 hc;unfold fromM at ha;obtain ⟨n,hn,rfl⟩:=List.mem_map.1 ha;obtain ⟨e1,e2,e3,e4⟩:=hg _ _ _ c hc;have hn:=List.mem_range'_1.1 hn;rw [e1,e2];exact ⟨⟨by omega,by omega,rfl⟩,e3,e4⟩
 have kA:=key KA (·.1) fun i pc off=>(emitM_at i o pc off).1
 have kE:=key KE (·.2) fun i pc off=>(emitM_at i o pc off).2
 exact ⟨⟨by have:=hl.1; omega,fun c hc=>(kA c hc).1,fun c hc=>(kA c hc).2.1,fun c hc=>(kA c hc).2.2⟩,⟨by have:=hl.2; omega,fun c hc=>(kE c hc).1,fun c hc=>(kE c hc).2.1,fun c hc=>(kE c hc).2.2⟩⟩
theorem Spl.next {p:api_Program} {o:List Int} {s:api_Split} (h:Spl p o s):NextOk s∧SplitOk s.Blocks:=by
 have g9:SplitOk s.Blocks:=by
  have hlen:=h.len;have hz:=(leadI_zero h.right).1;have hll:=(leadI_Lead p).len;have hc2:=(rightP_Right h.right).2.1;refine ⟨fun e=>by rw [e] at hlen; simp at hlen; omega,by omega,fun k hk=>?_⟩
  have hk2:k < (leadI p).length:=by omega
  obtain ⟨b1,b2,b3,b4⟩:=h.bounds hk2;rw [h.blk hk2];obtain ⟨s1,s2⟩:=span_ok p o b1 b2;refine ⟨b1,b2,by show toB p k≤2000; omega,?_,s1,s2⟩
  show nxM p (leadI p) (toB p k) = -1∨((k:Int) < nxM p (leadI p) (toB p k)∧nxM p (leadI p) (toB p k) < s.Blocks.length);unfold nxM;split
  ·
   rcases to_next h.right hk2 with ⟨g1,g2⟩ | ⟨g1,g2⟩
   · rw [g2,find_lead g1]; omega
   · rw [g2]; exact .inl (find_end p)
  · exact .inl rfl
 exact ⟨NextOk.of g9,g9⟩
theorem in_block {p:api_Program} {k:Nat} (hk:k < (leadI p).length) {n:Nat} (h1:frB p k < n) (h2:(n:Int) < toB p k) (hn:n < p.Code.length):markM p p.Code.length n = false:=by
 cases hm:markM p p.Code.length n with
 | false=>rfl
 | true =>
  obtain ⟨j,hj,e,_⟩:=lead_of_mark hn hm;have hl:=leadI_Lead p;rcases Nat.lt_trichotomy j k with h | h | h
  · have:=hl.up j k h hk; unfold frB at *; omega
  · subst h; omega
  ·
   unfold toB toM at h2;rw [if_pos (by omega)] at h2;by_cases e2:j = k+1
   · subst e2; unfold frB at *; omega
   · have:=hl.up (k+1) j (by omega) hj; unfold frB at *; omega
theorem mark_hit {p:api_Program} {j n:Nat} (hj:j < p.Code.length) (h:hitM p j n = true):markM p p.Code.length n = true:=by
 unfold markM;rw [Bool.or_eq_true];exact .inr (List.any_eq_true.2 ⟨j,List.mem_range.2 hj,h⟩)
theorem in_ends {p:api_Program} {k:Nat} (hk:k < (leadI p).length) {n:Nat} (h1:frB p k≤n) (h2:(n:Int)+1 < toB p k) (hn:n+1 < p.Code.length):endsI (codeM p n) = false:=by
 cases he:endsI (codeM p n) with
 | false=>rfl
 | true =>
  have:=in_block hk (n:=n+1) (by omega) (by omega) hn;have h3:=mark_hit (p:=p) (j:=n) (n:=n+1) (by omega) (by unfold hitM; rw [he]; simp);rw [this] at h3;cases h3
/-! Settling -/
theorem settleN_fuel {s:api_Split} (h:NextOk s) (e:Bool):∀ (n:Nat) (p:api_Pos),hasM s p.Block = true→s.Blocks.length - p.Block.toNat≤n→settleN s e (n+1) p = settleN s e n p
 | 0,p,hp,hn=>by
  have:=hasM_iff.1 hp;omega
 | n+1,p,hp,hn=>by
  rw [settleN]
  conv=>rhs; rw [settleN]
  have hnb:¬ (hasM s p.Block = false):=by rw [hp]; simp
  rw [if_neg hnb,if_neg hnb];by_cases h1:p.Index < len (cellsM s e p.Block)
  · rw [if_pos h1,if_pos h1]
  rw [if_neg h1,if_neg h1];by_cases h2:(blockM s p.Block).2.2.1 < 0
  · rw [if_pos h2,if_pos h2]
  rw [if_neg h2,if_neg h2];rcases h p.Block hp with h3 | ⟨h3,h4⟩
  · exact absurd h3 h2
  have h5:=hasM_iff.1 h4;have h6:=hasM_iff.1 hp;exact settleN_fuel h e n _ h4 (by simp only; omega)
theorem settle_cell {s:api_Split} {e:Bool} {p:api_Pos} (hp:hasM s p.Block = true) (h:p.Index < len (cellsM s e p.Block)):settleM s e p = (p,false):=by
 have h0:=hasM_iff.1 hp;obtain ⟨k,hk⟩:∃ k,s.Blocks.length = k+1:=⟨s.Blocks.length - 1,by omega⟩
 unfold settleM;rw [hk,settleN,if_neg (by rw [hp]; simp),if_pos h]
theorem settle_skip {s:api_Split} (hn:NextOk s) {e:Bool} {p:api_Pos} (hp:hasM s p.Block = true) (h:¬ p.Index < len (cellsM s e p.Block)) (h2:¬ (blockM s p.Block).2.2.1 < 0):settleM s e p = settleM s e ⟨(blockM s p.Block).2.2.1,0,endM s p⟩:=by
 have h0:=hasM_iff.1 hp;obtain ⟨k,hk⟩:∃ k,s.Blocks.length = k+1:=⟨s.Blocks.length - 1,by omega⟩
 rcases hn p.Block hp with h3 | ⟨h3,h4⟩
 · exact absurd h3 h2
 have h5:=hasM_iff.1 h4;unfold settleM;rw [hk]
 conv=>lhs; rw [settleN]
 rw [if_neg (by rw [hp]; simp),if_neg h,if_neg h2];exact (settleN_fuel hn e k _ h4 (by simp only; omega)).symm
theorem settle_fell {s:api_Split} {e:Bool} {p:api_Pos} (hp:hasM s p.Block = true) (h:¬ p.Index < len (cellsM s e p.Block)) (h2:(blockM s p.Block).2.2.1 < 0):settleM s e p = (p,true):=by
 have h0:=hasM_iff.1 hp;obtain ⟨k,hk⟩:∃ k,s.Blocks.length = k+1:=⟨s.Blocks.length - 1,by omega⟩
 unfold settleM;rw [hk,settleN,if_neg (by rw [hp]; simp),if_neg h,if_pos h2]
/-! Places on the way: at instruction n of block k, j of its cells done, its step being st -/
def posM (p:api_Program) (o:List Int) (e:Bool) (k n j:Nat) (st:Int):api_Pos:=⟨(k:Int),((cellsS e p o (frB p k) (frB p k).toNat (n - (frB p k).toNat)).length+j:Nat),st - ((n:Int) - frB p k)⟩
section
variable {p:api_Program} {o:List Int} {s:api_Split} (h:Spl p o s)
include h
theorem Spl.parts {k n:Nat} (hk:k < (leadI p).length) (h1:frB p k≤n) (h2:(n:Int) < toB p k) (e:Bool) :
  cellsM s e (k:Int) = cellsS e p o (frB p k) (frB p k).toNat (n - (frB p k).toNat)++(emS e (codeM p n) o (n:Int) ((n:Int) - frB p k)++cellsS e p o (frB p k) (n+1) (toB p k - n - 1).toNat):=by
 have hb:=h.bounds hk;rw [h.cells hk e,show (toB p k - frB p k).toNat = (n - (frB p k).toNat)+((toB p k - n - 1).toNat+1) by omega,cellsS_add,show (frB p k).toNat+(n - (frB p k).toNat) = n by omega,cellsS_succ]
theorem Spl.at_cell {k n j:Nat} (hk:k < (leadI p).length) (h1:frB p k≤n) (h2:(n:Int) < toB p k) (e:Bool) (st:Int) (hj:j < (emS e (codeM p n) o (n:Int) ((n:Int) - frB p k)).length) :
  settleM s e (posM p o e k n j st) = (posM p o e k n j st,false)∧cellAt s e (posM p o e k n j st) = (emS e (codeM p n) o (n:Int) ((n:Int) - frB p k)).getD j api_Cell.z:=by
 have hc:=h.parts hk h1 h2 e;refine ⟨settle_cell ((h.has _).2 ⟨by unfold posM; simp only; omega,by unfold posM; simp only; omega⟩) ?_,?_⟩
 ·
  show ((_:Nat):Int) < Zz.len (cellsM s e (k:Int));rw [hc];simp only [Zz.len,List.length_append];omega
 ·
  unfold cellAt posM;simp only [Int.toNat_natCast];rw [hc,List.getD_eq_getElem?_getD,List.getElem?_append_right (by omega),Nat.add_sub_cancel_left,List.getElem?_append_left hj,List.getD_eq_getElem?_getD]
theorem Spl.go_on {k n:Nat} (hk:k < (leadI p).length) (h1:frB p k≤n) (h2:(n:Int) < toB p k) (e:Bool) (st:Int) (hst:0≤st) (hst2:st≤1000000000) (hj:(codeM p n).1≠40) (hh:(codeM p n).1≠41) :
  ∃ k':Nat,k' < (leadI p).length∧frB p k'≤(n+1:Nat)∧(((n+1:Nat):Int) < toB p k'∨(((n+1:Nat):Int) = p.Code.length∧toB p k' = p.Code.length∧k'+1 = (leadI p).length)) ∧
   settleM s e (posM p o e k n (emS e (codeM p n) o (n:Int) ((n:Int) - frB p k)).length st) = settleM s e (posM p o e k' (n+1) 0 (st+1)):=by
 have hb:=h.bounds hk;have hlen:(cellsS e p o (frB p k) (frB p k).toNat (n - (frB p k).toNat)).length+(emS e (codeM p n) o (n:Int) ((n:Int) - frB p k)).length = (cellsS e p o (frB p k) (frB p k).toNat (n+1 - (frB p k).toNat)).length:=by
  rw [show n+1 - (frB p k).toNat = (n - (frB p k).toNat)+1 by omega,cellsS_add,show (frB p k).toNat+(n - (frB p k).toNat) = n by omega,cellsS_succ,cellsS_zero,List.append_nil,List.length_append]
 have hpos:posM p o e k n (emS e (codeM p n) o (n:Int) ((n:Int) - frB p k)).length st = posM p o e k (n+1) 0 (st+1):=by
  unfold posM;rw [hlen];simp only [Nat.add_zero,api_Pos.mk.injEq,true_and];omega
 rw [hpos];by_cases hin:((n+1:Nat):Int) < toB p k
 · exact ⟨k,hk,by omega,.inl hin,rfl⟩
 have ht:toB p k = ((n+1:Nat):Int):=by omega
 rcases to_next h.right hk with ⟨hk1,e1⟩ | ⟨hk1,e1⟩
 ·
  have hb1:=h.bounds hk1;refine ⟨k+1,hk1,by omega,.inl (by omega),?_⟩
  have hc:=h.cells hk e;have hx:(toB p k - frB p k).toNat = n+1 - (frB p k).toNat:=by omega
  have hhas:hasM s ((posM p o e k (n+1) 0 (st+1)).Block) = true:=(h.has _).2 ⟨by unfold posM; simp only; omega,by unfold posM; simp only; omega⟩
  have hnx:(blockM s (k:Int)).2.2.1 = ((k+1:Nat):Int):=by
   rw [(h.block hk).2.2.1];unfold nxM;rw [show (toB p k - 1).toNat = n by omega,if_pos ⟨hj,hh⟩,e1,find_lead hk1]
  have hn:NextOk s:=h.next.1
  rw [settle_skip hn hhas (by show ¬ (((_:Nat):Int) < Zz.len (cellsM s e (k:Int))); rw [hc,hx]; simp only [Zz.len]; omega) (by show ¬ ((blockM s (k:Int)).2.2.1 < 0); rw [hnx]; omega)];congr 1;have he:=h.end_ hk (pos:=posM p o e k (n+1) 0 (st+1)) rfl (by unfold posM; simp only; omega) (by unfold posM; simp only; omega);rw [he];unfold posM;simp only;rw [hnx,← e1,show n+1 - (toB p k).toNat = 0 by omega,cellsS_zero];simp only [List.length_nil,Nat.add_zero,Int.natCast_zero,api_Pos.mk.injEq,true_and];omega
 · exact ⟨k,hk,by omega,.inr ⟨by omega,e1,hk1⟩,rfl⟩
end
end Go.Proofs.Zz

/- Where a stream is, on a program's way: at place pc, step n, j cells of the instruction done. -/
set_option maxRecDepth 100000
namespace Go.Proofs.Zz
open Go
def emAt (p:api_Program) (o:List Int) (e:Bool) (pc:Nat) (off:Int):List api_Cell:=emS e (codeM p pc) o (pc:Int) off
theorem emS_len (e:Bool) (i:api_Ins) (o:List Int) (pc off off':Int):(emS e i o pc off).length = (emS e i o pc off').length:=by
 unfold emS emitM;cases e <;> (simp only [Bool.false_eq_true,if_false,if_true]; repeat' split) <;> simp
def WAt (p:api_Program) (o:List Int) (s:api_Split) (e:Bool) (pc n j:Nat) (pos:api_Pos):Prop :=
 ∃ k:Nat,k < (leadI p).length∧frB p k≤pc∧((pc:Int) < toB p k∨((pc:Int) = p.Code.length∧toB p k = p.Code.length∧k+1 = (leadI p).length))∧settleM s e pos = settleM s e (posM p o e k pc j n)
section
variable {p:api_Program} {o:List Int} {s:api_Split} {e:Bool} {pc n j:Nat} {pos:api_Pos} (h:Spl p o s)
include h
theorem Spl.first:WAt p o s e 0 0 0 ⟨0,0,0⟩:=by
 obtain ⟨h1,h2⟩:=leadI_zero h.right;have hb:=h.bounds h1;refine ⟨0,h1,by omega,.inl (by omega),?_⟩
 unfold posM;rw [h2];simp [cellsS_zero]
theorem WAt.lt (hw:WAt p o s e pc n j pos):pc≤p.Code.length:=by
 obtain ⟨k,hk,h1,h2,h3⟩:=hw;have hb:=h.bounds hk;omega
theorem WAt.cell (hw:WAt p o s e pc n j pos) (hpc:pc < p.Code.length) (hn:n≤1000000000) (hj:j < (emAt p o e pc 0).length) :
  ∃ k:Nat,k < (leadI p).length∧frB p k≤pc∧(pc:Int) < toB p k∧settleM s e pos = (posM p o e k pc j n,false)∧nextM s e pos = ((emAt p o e pc ((pc:Int) - frB p k)).getD j api_Cell.z,(n:Int),true):=by
 obtain ⟨k,hk,h1,h2,h3⟩:=hw;have hb:=h.bounds hk;have h2:(pc:Int) < toB p k:=by omega
 have hj':j < (emS e (codeM p pc) o (pc:Int) ((pc:Int) - frB p k)).length:=by
  rw [emS_len e _ o _ _ 0]; exact hj
 obtain ⟨g1,g2⟩:=h.at_cell hk h1 h2 e n hj';refine ⟨k,hk,h1,h2,h3.trans g1,?_⟩;unfold nextM;rw [h3,g1];simp only [g2];rw [if_neg (by rintro (h | h); cases h; unfold posM at h; simp only at h; omega)];have hoff:((emS e (codeM p pc) o (pc:Int) ((pc:Int) - frB p k)).getD j api_Cell.z).2.2.2.2.1 = (pc:Int) - frB p k:=by
  rw [List.getD_eq_getElem?_getD,List.getElem?_eq_getElem hj',Option.getD_some];have hm:=List.getElem_mem hj';generalize (emS e (codeM p pc) o (pc:Int) ((pc:Int) - frB p k))[j] = c at hm;unfold emS emitM at hm
  revert hm
  cases e <;> simp only [Bool.false_eq_true,if_false,if_true] <;> (repeat' split) <;> simp only [List.mem_cons,List.mem_append,List.mem_map,List.not_mem_nil,or_false,false_or] <;> intro hm
  all_goals first | exact hm.elim | (rcases hm with rfl | rfl <;> rfl) | (subst hm; rfl) | (rcases hm with ⟨r,_,rfl⟩ | rfl <;> rfl) | (obtain ⟨r,_,rfl⟩:=hm; rfl)
 rw [hoff];have:w.i64 ((posM p o e k pc j n).Base+((pc:Int) - frB p k)) = (n:Int):=by
  unfold posM;simp only;rw [wI (by omega) (by omega)];omega
 rw [this];rfl
theorem WAt.step (hw:WAt p o s e pc n j pos) (hpc:pc < p.Code.length) (hn:n≤1000000000) (hj:j < (emAt p o e pc 0).length):WAt p o s e pc n (j+1) (goM s (settleM s e pos).1 false):=by
 obtain ⟨k,hk,h1,h2,h3,_⟩:=WAt.cell h hw hpc hn hj;have hb:=h.bounds hk;refine ⟨k,hk,h1,.inl h2,?_⟩;rw [h3];unfold goM;rw [if_neg (by simp)];have hl:(posM p o e k pc j n).Index≤100000:=by
  have hc:=(h.next).2.blk k (by rw [h.len]; exact hk);have hcm:=h.parts hk h1 h2 e;have hlen:=congrArg List.length hcm;simp only [List.length_append] at hlen;unfold posM;simp only;have hj':j < (emS e (codeM p pc) o (pc:Int) ((pc:Int) - frB p k)).length:=by rw [emS_len e _ o _ _ 0]; exact hj
  have hsp:((cellsM s e (k:Int)).length:Int)≤8*((s.Blocks.getD k api_Block.z).2.1 - (s.Blocks.getD k api_Block.z).1):=by
   unfold cellsM blockM;rw [if_pos ((h.has _).2 ⟨by omega,by omega⟩),Int.toNat_natCast];cases e
   · exact hc.2.2.2.2.1.len
   · exact hc.2.2.2.2.2.len
  omega
 have:w.i64 ((posM p o e k pc j n).Index+1) = (posM p o e k pc j n).Index+1:=wI (by unfold posM; simp only; omega) (by omega);rw [this];rfl
theorem WAt.on (hw:WAt p o s e pc n (emAt p o e pc 0).length pos) (hpc:pc < p.Code.length) (hn:n≤1000000000) (h40:(codeM p pc).1≠40) (h41:(codeM p pc).1≠41):WAt p o s e (pc+1) (n+1) 0 pos:=by
 obtain ⟨k,hk,h1,h2,h3⟩:=hw;have hb:=h.bounds hk;obtain ⟨k',g1,g2,g3,g4⟩:=h.go_on hk h1 (by omega) e (n:Int) (by omega) (by omega) h40 h41;refine ⟨k',g1,g2,g3.imp id (fun h=>h),?_⟩;rw [h3];have:(emAt p o e pc 0).length = (emS e (codeM p pc) o (pc:Int) ((pc:Int) - frB p k)).length:=emS_len e _ o _ _ _;rw [this,g4];rfl
theorem WAt.go (hw:WAt p o s e pc n j pos) (hpc:pc < p.Code.length) (hn:n≤1000000000) (hj:j < (emAt p o e pc 0).length) (hbr:brM (codeM p pc) = true):0≤tgtM p (pc:Int)∧WAt p o s e (tgtM p (pc:Int)).toNat (n+1) 0 (goM s (settleM s e pos).1 true):=by
 have hr:=h.right;have ht:0≤tgtM p (pc:Int):=by
  unfold rightP tgtsOk at hr;simp only [Bool.and_eq_true] at hr;have:=List.all_eq_true.1 hr.2.2 pc (List.mem_range'.2 ⟨pc,hpc,by omega⟩);unfold tgtOk at this;rw [hbr] at this;simp only [Bool.true_and,Bool.not_eq_true',decide_eq_false_iff_not] at this;omega
 have htl:=tgtM_lt ht;refine ⟨ht,?_⟩;obtain ⟨k,hk,h1,h2,h3,_⟩:=WAt.cell h hw hpc hn hj;have hb:=h.bounds hk;have hends:endsI (codeM p pc) = true:=by
  unfold brM at hbr;have:=of_decide_eq_true hbr;unfold endsI;exact decide_eq_true (by omega)
 have hto:toB p k = (pc:Int)+1:=by
  by_cases hx:(pc:Int)+1 < toB p k
  ·
   have:=in_ends hk h1 hx (by omega);rw [hends] at this;cases this
  · omega
 obtain ⟨t,hte⟩:∃ t:Nat,tgtM p (pc:Int) = (t:Int):=⟨(tgtM p (pc:Int)).toNat,by omega⟩
 have hm:markM p p.Code.length t = true:=mark_hit hpc (by unfold hitM; rw [hte]; simp);obtain ⟨k',g1,g2,g3⟩:=lead_of_mark (by omega) hm;have hb':=h.bounds g1;have htk:(blockM s (k:Int)).2.2.2.1 = (k':Int):=by
  rw [(h.block hk).2.2.2];unfold tkM;rw [hto,show (pc:Int)+1 - 1 = (pc:Int) by omega,if_pos ht,hte,g3]
 rw [hte,Int.toNat_natCast];refine ⟨k',g1,by omega,.inl (by omega),?_⟩
 rw [h3];have hend:=h.end_ hk (pos:=posM p o e k pc j n) rfl (by unfold posM; simp only; omega) (by unfold posM; simp only; omega);have hg:goM s (posM p o e k pc j n) true = posM p o e k' t 0 ((n+1:Nat):Int):=by
  have hB:(posM p o e k pc j n).Block = (k:Int):=rfl;unfold goM;rw [hB,htk,if_pos ⟨rfl,(h.has _).2 ⟨by omega,by omega⟩,(h.has _).2 ⟨by omega,by omega⟩⟩,hend];unfold posM;rw [g2,show t - ((t:Int)).toNat = 0 by omega,cellsS_zero];simp only [List.length_nil,Nat.add_zero,Int.natCast_zero,api_Pos.mk.injEq,true_and];omega
 rw [hg]
theorem WAt.fell (hw:WAt p o s e p.Code.length n 0 pos) (hn:n≤1000000000) (h40:(codeM p (p.Code.length - 1)).1 = 40→False) (h41:(codeM p (p.Code.length - 1)).1 = 41→False) :
  ∃ q:api_Pos,settleM s e pos = (q,true)∧nextM s e pos = (api_Cell.z,(n:Int),false)∧(blockM s q.Block).2.1 = p.Code.length:=by
 obtain ⟨k,hk,h1,h2,h3⟩:=hw;have hb:=h.bounds hk;have h2:toB p k = p.Code.length:=by omega
 have hhas:hasM s ((posM p o e k p.Code.length 0 n).Block) = true:=(h.has _).2 ⟨by unfold posM; simp only; omega,by unfold posM; simp only; omega⟩
 have hc:=h.cells hk e;have hnx:(blockM s (k:Int)).2.2.1 = -1:=by
  rw [(h.block hk).2.2.1,h2];unfold nxM;split
  ·
   unfold findL;rw [if_neg];intro hm;obtain ⟨i,hi,e⟩:=List.getElem_of_mem hm;have:=(leadI_Lead p).lo i hi;rw [List.getD_eq_getElem?_getD,List.getElem?_eq_getElem hi,Option.getD_some,e] at this;omega
  · rfl
 have hs:settleM s e (posM p o e k p.Code.length 0 n) = (posM p o e k p.Code.length 0 n,true):=by
  refine settle_fell hhas ?_ (by unfold posM; simp only; rw [hnx]; omega);unfold posM;simp only;rw [hc,show (toB p k - frB p k).toNat = p.Code.length - (frB p k).toNat by omega];simp only [len];omega
 have hend:=h.end_ hk (pos:=posM p o e k p.Code.length 0 n) rfl (by unfold posM; simp only; omega) (by unfold posM; simp only; omega);refine ⟨_,h3.trans hs,?_,?_⟩
 ·
  unfold nextM;rw [h3,hs,if_pos (.inl rfl),hend];unfold posM;simp only [Prod.mk.injEq,true_and,and_true];omega
 · exact (h.block hk).2.1.trans h2
end
end Go.Proofs.Zz
