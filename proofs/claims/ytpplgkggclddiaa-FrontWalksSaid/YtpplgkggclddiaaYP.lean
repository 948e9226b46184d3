import Derived.Test.YtpplgkggclddiaaXA
import Derived.Test.YtpplgkggclddiaaMK
set_option linter.unusedSimpArgs false
set_option linter.unusedVariables false
/- The program's way, an instruction at a time and past its traps; what each side does of it. -/
set_option maxRecDepth 100000
namespace Go.Proofs.Zz
open Go
structure GS where
 pc:Nat
 regs:Int→Int
 mem:List Int
def gv (g:GS) (r:Int):Int:=if 1≤r∧r≤15 then g.regs r else 0
def updG (f:Int→Int) (r v:Int):Int→Int:=fun q=>if q = r then v else f q
def gAddr (g:GS) (i:api_Ins):Int:=w.u32 (gv g i.2.2.1+w.u32 i.2.2.2.2.1)
def gDo (g:GS) (i:api_Ins):Int × Bool:=doM i (gv g i.2.2.1) (gv g i.2.2.2.1)
def gTk (g:GS) (i:api_Ins):Bool:=takenM i.1 (gv g i.2.2.1) (gv g i.2.2.2.1)
def gTrap (g:GS) (i:api_Ins):Int :=
 if formM i.1≤3 then (if (gDo g i).2 = true then 0 else 3) else if formM i.1≤5 then checkX (sizeM i.1) (gAddr g i) (len g.mem) else 0
def gWr (g:GS) (i:api_Ins):api_Write:=(gAddr g i,(sizeM i.1,(maskM (gv g i.2.2.2.1) (sizeM i.1),())))
def goes (g:GS) (i:api_Ins):Bool:=decide (formM i.1 = 7) || (decide (formM i.1 = 6) && gTk g i)
def gPc (p:api_Program) (g:GS) (i:api_Ins):Nat:=if goes g i = true then (tgtM p (g.pc:Int)).toNat else if formM i.1 = 8 then g.pc else g.pc+1
def rgsG (g:GS) (i:api_Ins):Int→Int :=
 if gTrap g i≠0 then g.regs else if formM i.1≤3 then updG g.regs i.2.1 (gDo g i).1 else if formM i.1 = 4 then updG g.regs i.2.1 (loadV g.mem i.1 (gAddr g i)) else g.regs
def gMem (g:GS) (i:api_Ins):List Int:=if formM i.1 = 5∧gTrap g i = 0 then wrOf g.mem (gWr g i) else g.mem
def stG (p:api_Program) (g:GS):GS:=if g.pc < p.Code.length then ⟨gPc p g (codeM p g.pc),rgsG g (codeM p g.pc),gMem g (codeM p g.pc)⟩ else g
def runG (p:api_Program) (m0:List Int):Nat→GS
 | 0=>⟨0,fun _=>0,m0⟩
 | n+1=>stG p (runG p m0 n)
def insG (p:api_Program) (m0:List Int) (n:Nat):api_Ins:=codeM p (runG p m0 n).pc
theorem form_40 {op:Int} (h:formM op≠7):op≠40:=by rintro rfl; exact h (by decide)
theorem form_41 {op:Int} (h:formM op≠8):op≠41:=by rintro rfl; exact h (by decide)
theorem updG_ne {f:Int→Int} {r v q:Int} (h:q≠r):updG f r v q = f q:=if_neg h
theorem updG_eq {f:Int→Int} {r v:Int}:updG f r v r = v:=if_pos rfl
theorem rgsG_ne (g:GS) (i:api_Ins) {r:Int} (h:r≠i.2.1):rgsG g i r = g.regs r:=by
 unfold rgsG
 repeat' split
 · rfl
 · exact updG_ne h
 · exact updG_ne h
 · rfl
theorem rgsG_hi (g:GS) (i:api_Ins) (h:5≤formM i.1):rgsG g i = g.regs:=by
 unfold rgsG
 repeat' split
 · rfl
 · omega
 · omega
 · rfl
/-! Cells of an instruction: what is sent, then at most one cell -/
def sndR (o:List Int) (i:api_Ins):List Int :=
 if rightIns i = false then [] else if formM i.1≤3 then (if sideOM i o = 1 then [] else sentOM i o) else if formM i.1 = 5 then (if ownM o i.2.2.2.1 = 1 then [i.2.2.2.1] else []) else if formM i.1 = 6 then (if anyEM o (readsM i) = false then [] else sentOM i o) else []
def lstA (o:List Int) (i:api_Ins) (pc off:Int):List api_Cell :=
 if rightIns i = false then [] else
 if formM i.1≤3 then (if sideOM i o = 1 then [cellI 1 i pc off] else []) else
 if formM i.1 = 4 then (if onEM o i.2.1 = true then [cellI 3 i pc off] else [cellI 2 i pc off]) else
 if formM i.1 = 5 then [cellI 4 i pc off] else
 if formM i.1 = 6 then (if anyEM o (readsM i) = false then [cellI 9 i pc off] else [cellR 10 0 pc off]) else
 if formM i.1 = 7 then [cellR 11 0 pc off] else [cellR 12 0 pc off]
def lstE (o:List Int) (i:api_Ins) (pc off:Int):List api_Cell :=
 if rightIns i = false then [] else
 if formM i.1≤3 then (if sideOM i o = 1 then [] else [cellI 1 i pc off]) else
 if formM i.1 = 4 then (if onEM o i.2.1 = true then [cellI 7 i pc off] else []) else
 if formM i.1 = 5 then [cellR 8 i.2.2.2.1 pc off] else
 if formM i.1 = 6 then (if anyEM o (readsM i) = false then [cellR 10 0 pc off] else [cellI 9 i pc off]) else
 if formM i.1 = 7 then [cellR 11 0 pc off] else [cellR 12 0 pc off]
def lstS (e:Bool) (o:List Int) (i:api_Ins) (pc off:Int):List api_Cell:=if e = true then lstE o i pc off else lstA o i pc off
def sndK (e:Bool):Int:=if e = true then 6 else 5
theorem emit_parts (e:Bool) (i:api_Ins) (o:List Int) (pc off:Int):emS e i o pc off = (sndR o i).map (fun r=>cellR (sndK e) r pc off)++lstS e o i pc off:=by
 have hf:=formM_range i.1;unfold emS emitM sndR lstS lstA lstE sndK;cases hr:rightIns i with
 | false=>cases e <;> simp
 | true =>
  have h0:formM i.1≠0:=by
   intro h;unfold rightIns at hr;rw [h] at hr;simp at hr
  by_cases f3:formM i.1≤3
  ·
   rw [if_pos (show 1≤formM i.1∧formM i.1≤3 by omega),if_pos f3,if_pos f3,if_pos f3];by_cases h:sideOM i o = 1
   · cases e <;> simp [h]
   · cases e <;> simp [h]
  ·
   rw [if_neg (show ¬ (1≤formM i.1∧formM i.1≤3) by omega),if_neg f3,if_neg f3,if_neg f3];by_cases f4:formM i.1 = 4
   ·
    rw [if_pos f4,if_pos f4,if_pos f4,if_neg (show ¬ formM i.1 = 5 by omega),if_neg (show ¬ formM i.1 = 6 by omega)];cases onEM o i.2.1 <;> cases e <;> simp
   rw [if_neg f4,if_neg f4,if_neg f4];by_cases f5:formM i.1 = 5
   ·
    rw [if_pos f5,if_pos f5,if_pos f5,if_pos f5];by_cases h:ownM o i.2.2.2.1 = 1 <;> cases e <;> simp [h]
   rw [if_neg f5,if_neg f5,if_neg f5,if_neg f5];by_cases f6:formM i.1 = 6
   ·
    rw [if_pos f6,if_pos f6,if_pos f6,if_pos f6];cases anyEM o (readsM i) <;> cases e <;> simp
   rw [if_neg f6,if_neg f6,if_neg f6,if_neg f6];by_cases f7:formM i.1 = 7
   ·
    rw [if_pos f7,if_pos f7];cases e <;> simp
   ·
    rw [if_neg f7,if_neg f7,if_pos (show formM i.1 = 8 by omega)];cases e <;> simp
theorem lst_len (e:Bool) (o:List Int) (i:api_Ins) (pc off:Int):(lstS e o i pc off).length≤1:=by
 unfold lstS lstA lstE
 repeat' split
 all_goals simp
/-! Lists that grow step by step -/
def evq {α:Type} (f:Nat→List α):Nat→List α
 | 0=>[]
 | n+1=>evq f n++f n
/-! What is done, step by step -/
section
variable (p:api_Program) (o:List Int) (m0:List Int)
def qst (n:Nat):List (Nat × api_Write):=if formM (insG p m0 n).1 = 5 then [(n,gWr (runG p m0 n) (insG p m0 n))] else []
def trS (e:Bool) (n:Nat):Int :=
 if formM (insG p m0 n).1≤3 then (if (sideOM (insG p m0 n) o = 1↔e = false) then gTrap (runG p m0 n) (insG p m0 n) else 0)
 else if e = true then 0 else gTrap (runG p m0 n) (insG p m0 n)
end
/-! The stream of a side, on the way -/
section
variable {p:api_Program} {o:List Int} {s:api_Split} {m0:List Int} {e:Bool} {n j:Nat} {pos:api_Pos} (h:Spl p o s)
theorem runG_pc (hpc:(runG p m0 n).pc < p.Code.length):runG p m0 (n+1) = ⟨gPc p (runG p m0 n) (insG p m0 n),rgsG (runG p m0 n) (insG p m0 n),gMem (runG p m0 n) (insG p m0 n)⟩:=if_pos hpc
theorem runG_end (hpc:¬ (runG p m0 n).pc < p.Code.length):runG p m0 (n+1) = runG p m0 n:=if_neg hpc
theorem insG_right (hp:rightP p = true) (hpc:(runG p m0 n).pc < p.Code.length):rightIns (insG p m0 n) = true:=(rightP_Right hp).2.2 _ hpc
theorem em_len:(emAt p o e (runG p m0 n).pc 0).length = (sndR o (insG p m0 n)).length+(lstS e o (insG p m0 n) (runG p m0 n).pc 0).length:=by
 unfold emAt;rw [emit_parts,List.length_append,List.length_map];rfl
theorem lst_len_eq (o:List Int) (i:api_Ins) (pc off off':Int):(lstS e o i pc off).length = (lstS e o i pc off').length:=by
 unfold lstS lstA lstE
 repeat' split
 all_goals rfl
include h
theorem WAt.nextG (hw:WAt p o s e (runG p m0 n).pc n j pos) (hpc:(runG p m0 n).pc < p.Code.length) (hn:n≤1000000000) (hj:j+1 = (emAt p o e (runG p m0 n).pc 0).length) (hh:formM (insG p m0 n).1≠8) :
  WAt p o s e (runG p m0 (n+1)).pc (n+1) 0 (goM s (settleM s e pos).1 (goes (runG p m0 n) (insG p m0 n))):=by
 rw [runG_pc hpc];show WAt p o s e (gPc p (runG p m0 n) (insG p m0 n)) (n+1) 0 _;unfold gPc;cases hg:goes (runG p m0 n) (insG p m0 n) with
 | true =>
  rw [if_pos rfl];refine (WAt.go h hw hpc hn (by omega) ?_).2;unfold goes at hg;unfold brM;refine decide_eq_true ?_;show formM (insG p m0 n).1 = 6∨formM (insG p m0 n).1 = 7;rw [Bool.or_eq_true,Bool.and_eq_true,decide_eq_true_eq,decide_eq_true_eq] at hg;omega
 | false =>
  rw [if_neg (by simp),if_neg hh];have h1:=WAt.step h hw hpc hn (by omega);rw [hj] at h1;have h7:formM (insG p m0 n).1≠7:=by
   intro h7;unfold goes at hg;rw [decide_eq_true h7] at hg;simp at hg
  exact WAt.on h h1 hpc hn (form_40 h7) (form_41 hh)
theorem WAt.skipG (hw:WAt p o s e (runG p m0 n).pc n j pos) (hpc:(runG p m0 n).pc < p.Code.length) (hn:n≤1000000000) (hj:j = (emAt p o e (runG p m0 n).pc 0).length) (hf:formM (insG p m0 n).1≤5) :
  WAt p o s e (runG p m0 (n+1)).pc (n+1) 0 pos∧(runG p m0 (n+1)).pc = (runG p m0 n).pc+1:=by
 have e1:(runG p m0 (n+1)).pc = (runG p m0 n).pc+1:=by
  rw [runG_pc hpc];show gPc p (runG p m0 n) (insG p m0 n) = _;unfold gPc goes;rw [decide_eq_false (show ¬ formM (insG p m0 n).1 = 7 by omega),decide_eq_false (show ¬ formM (insG p m0 n).1 = 6 by omega),if_neg (by simp),if_neg (by omega)]
 refine ⟨?_,e1⟩;rw [e1];subst hj;exact WAt.on h hw hpc hn (form_40 (show formM (insG p m0 n).1≠7 by omega)) (form_41 (show formM (insG p m0 n).1≠8 by omega))
end
end Go.Proofs.Zz

/- Bytes that are written, and read. -/
set_option maxRecDepth 100000
namespace Go.Proofs.Zz
open Go
theorem getD_setI (l:List Int) (i j:Nat) (v:Int) (h:i < l.length):(l.set i v).getD j 0 = if i = j then v else l.getD j 0:=by
 rw [List.getD_eq_getElem?_getD,List.getElem?_set,List.getD_eq_getElem?_getD];by_cases e:i = j
 · subst e; simp [h]
 · simp [e]
def Apart (a n b m:Int):Prop:=a+n≤b∨b+m≤a
theorem wrOf_ln (m:List Int) (q:api_Write):(wrOf m q).length = m.length:=wrB_len _ _ _ _
/-! Looking for a store -/
end Go.Proofs.Zz

/- The core and the way of the program, side by side: what is always so. -/
set_option maxRecDepth 100000
namespace Go.Proofs.Zz
open Go
def EntOk (e:api_Entry) (q:Nat × api_Write):Prop:=e.1 = q.2.1∧e.2.1 = q.2.2.1∧e.2.2.1 = (q.1:Int)∧(e.2.2.2.1 = true→e.2.2.2.2.1 = q.2.2.2.1)
def knows (l:List api_Entry):Bool:=(l.getD 0 api_Entry.z).2.2.2.1
def noSt:Nat × api_Write:=(0,(0,(0,(0,()))))
structure Slots (R:List api_Request) (l:List api_Slot) (mem:List Int) (tags:Int) (vs:List Int):Prop where
 ln:vs.length = l.length
 fl:∀ t,t < l.length→(l.getD t api_Slot.z).2.1 = true→(l.getD t api_Slot.z).2.2.1 = vs.getD t 0
 em:∀ t,t < l.length→(l.getD t api_Slot.z).2.1 = false→∃ q∈R,q.1 = false∧q.2.2.2.2.2.2.1 < 0∧q.2.2.2.2.2.2.2.1 = (l.getD t api_Slot.z).1∧loadV mem q.2.1 q.2.2.1 = vs.getD t 0
 cl:∀ q∈R,q.1 = false→q.2.2.2.2.2.2.1 < 0→∃ t,t < l.length∧(l.getD t api_Slot.z).1 = q.2.2.2.2.2.2.2.1∧(l.getD t api_Slot.z).2.1 = false
 ti:∀ t u,t < u→u < l.length→(l.getD t api_Slot.z).1 < (l.getD u api_Slot.z).1
 tb:∀ t,t < l.length→(l.getD t api_Slot.z).1 < tags
structure Stos (R:List api_Request) (l:List api_Entry) (rest:List (Nat × api_Write)):Prop where
 ln:rest.length = l.length
 en:∀ t,t < l.length→EntOk (l.getD t api_Entry.z) (rest.getD t noSt)
 kn:∀ t,0 < t→(l.getD t api_Entry.z).2.2.2.1 = false
 st:∀ q∈R,q.1 = true→knows l = true∧wrQ q = (rest.getD 0 noSt).2
 cn:knows l = true→∃ q∈R,q.1 = true
 one:(R.countP fun q=>q.1)≤1
def OwnQ (q q':api_Request):Prop:=q.1 = false→q'.1 = false→q.2.2.2.2.2.2.1 = q'.2.2.2.2.2.2.1→q.2.2.2.2.2.2.1 = 0∨(q.2.2.2.2.2.2.1 < 0∧q.2.2.2.2.2.2.2.1≠q'.2.2.2.2.2.2.2.1)
section
variable (p:api_Program) (o:List Int) (s:api_Split) (m0:List Int)
def cntS (e:Bool):Nat→Nat
 | 0=>0
 | n+1=>cntS e n+(sndR o (insG p m0 n)).length+(lstS e o (insG p m0 n) (runG p m0 n).pc 0).length
structure Pl (e:Bool) (pos:api_Pos) (hal:Bool) (dn:Int) (n j k:Nat):Prop where
 dc:dn = ((cntS p o m0 e n+j:Nat):Int)+(if hal = true then 1 else 0)
 wt:WAt p o s e (runG p m0 n).pc n j pos
 jb:j≤(sndR o (insG p m0 n)).length
 hl:hal = true→formM (insG p m0 n).1 = 8∧(runG p m0 n).pc < p.Code.length∧settleM s e pos = (pos,false)
 bd:n≤(runG p m0 n).pc+p.Code.length*k
 ps:∀ t,t < n→(runG p m0 t).pc < p.Code.length∧formM (insG p m0 t).1≠8∧trS p o m0 e t = 0
structure Loads (R:List api_Request) (regs ready mem:List Int) (n:Nat):Prop where
 rg:∀ q∈R,q.1 = false→1≤q.2.2.2.2.2.2.1→o.getD q.2.2.2.2.2.2.1.toNat 0 = 1∧ready.getD q.2.2.2.2.2.2.1.toNat 0 < 0∧loadV mem q.2.1 q.2.2.1 = (runG p m0 n).regs q.2.2.2.2.2.2.1
 pn:∀ r:Int,1≤r→r≤15→ready.getD r.toNat 0 < 0→∃ q∈R,q.1 = false∧q.2.2.2.2.2.2.1 = r
 un:R.Pairwise OwnQ
 dj:∀ q∈R,q.1 = false→∀ q'∈R,q'.1 = true→Apart q.2.2.1 (sizeM q.2.1) q'.2.2.1 q'.2.2.2.1
 rq:∀ q∈R,reqM (len mem) q = true
 ra:∀ r:Int,1≤r→r≤15→o.getD r.toNat 0 = 1→0≤ready.getD r.toNat 0→regs.getD r.toNat 0 = (runG p m0 n).regs r
 l16:regs.length = 16∧ready.length = 16
end
section
variable {p:api_Program} {o:List Int} {s:api_Split} {m0:List Int} {e hal:Bool} {pos:api_Pos} {dn:Int} {n j k m i ka ke:Nat} {R:List api_Request}
/-! The next cell of a side -/
theorem getD_appL {α:Type} (L M:List α) (d:α) {i:Nat} (h:i < L.length):(L++M).getD i d = L.getD i d:=by
 rw [List.getD_eq_getElem?_getD,List.getElem?_append_left h,← List.getD_eq_getElem?_getD]
theorem getD_appR {α:Type} (L M:List α) (d:α):(L++M).getD L.length d = M.getD 0 d:=by
 rw [List.getD_eq_getElem?_getD,List.getElem?_append_right (Nat.le_refl _),Nat.sub_self,← List.getD_eq_getElem?_getD]
theorem getD_mapD {α β:Type} (f:α→β) (l:List α) (d:α) (d':β) {i:Nat} (h:i < l.length):(l.map f).getD i d' = f (l.getD i d):=by
 rw [List.getD_eq_getElem?_getD,List.getElem?_map,List.getElem?_eq_getElem h,List.getD_eq_getElem?_getD,List.getElem?_eq_getElem h]; rfl
theorem Pl.send (h:Spl p o s) (g:Pl p o s m0 e pos hal dn n j k) (hpc:(runG p m0 n).pc < p.Code.length) (hn:n≤1000000000) (hj:j < (sndR o (insG p m0 n)).length) :
  (settleM s e pos).2 = false∧∃ off,nextM s e pos = (cellR (sndK e) ((sndR o (insG p m0 n)).getD j 0) (runG p m0 n).pc off,(n:Int),true):=by
 have hl:=em_len (p:=p) (o:=o) (n:=n) (e:=e) (m0:=m0);obtain ⟨b,_,_,_,h1,h2⟩:=WAt.cell h g.wt hpc hn (by omega);refine ⟨by rw [h1],((runG p m0 n).pc:Int) - frB p b,?_⟩
 rw [h2];unfold emAt;rw [show codeM p (runG p m0 n).pc = insG p m0 n from rfl,emit_parts,getD_appL _ _ _ (by rw [List.length_map]; exact hj),getD_mapD _ _ 0 _ hj]
theorem Pl.last (h:Spl p o s) (g:Pl p o s m0 e pos hal dn n j k) (hpc:(runG p m0 n).pc < p.Code.length) (hn:n≤1000000000) (hj:j = (sndR o (insG p m0 n)).length) (hl1:lstS e o (insG p m0 n) (runG p m0 n).pc 0≠[]) :
  (settleM s e pos).2 = false∧∃ off c,lstS e o (insG p m0 n) (runG p m0 n).pc off = [c]∧nextM s e pos = (c,(n:Int),true):=by
 have hl:=em_len (p:=p) (o:=o) (n:=n) (e:=e) (m0:=m0);have h0:0 < (lstS e o (insG p m0 n) (runG p m0 n).pc 0).length:=List.length_pos_iff.2 hl1;obtain ⟨b,_,_,_,h1,h2⟩:=WAt.cell h g.wt hpc hn (by omega);have h3:=lst_len e o (insG p m0 n) (runG p m0 n).pc ((runG p m0 n).pc - frB p b);have h4:=lst_len_eq (e:=e) o (insG p m0 n) (runG p m0 n).pc 0 ((runG p m0 n).pc - frB p b);obtain ⟨c,hc⟩:∃ c,lstS e o (insG p m0 n) (runG p m0 n).pc ((runG p m0 n).pc - frB p b) = [c]:=List.length_eq_one_iff.1 (by omega)
 refine ⟨by rw [h1],_,c,hc,?_⟩
 rw [h2];unfold emAt;rw [show codeM p (runG p m0 n).pc = insG p m0 n from rfl,emit_parts,hj];have hm:=getD_appR ((sndR o (insG p m0 n)).map (fun r=>cellR (sndK e) r (runG p m0 n).pc ((runG p m0 n).pc - frB p b))) (lstS e o (insG p m0 n) (runG p m0 n).pc ((runG p m0 n).pc - frB p b)) api_Cell.z;rw [List.length_map] at hm;rw [hm,hc];rfl
theorem Pl.fell (h:Spl p o s) (g:Pl p o s m0 e pos hal dn n j k) (hpc:¬ (runG p m0 n).pc < p.Code.length) (hn:n≤1000000000) :
  ∃ q:api_Pos,settleM s e pos = (q,true)∧nextM s e pos = (api_Cell.z,(n:Int),false)∧(blockM s q.Block).2.1 = p.Code.length∧(runG p m0 n).pc = p.Code.length:=by
 have h1:=WAt.lt h g.wt;have h2:(runG p m0 n).pc = p.Code.length:=by omega
 have hz:insG p m0 n = api_Ins.z:=by
  unfold insG codeM;rw [List.getD_eq_getElem?_getD,List.getElem?_eq_none (by omega)]; rfl
 have hj:j = 0:=by
  have:=g.jb;rw [hz] at this;have h0:sndR o api_Ins.z = []:=rfl;rw [h0] at this;exact Nat.le_zero.1 this
 have hw:=g.wt;rw [h2,hj] at hw;have hne:0 < p.Code.length:=by
  have:=rightP_Right h.right;exact this.1
 /- the place ahead of the end was passed -/
 have last:∀ t:Nat,t≤n→(∀ u,u < t→formM (insG p m0 u).1≠8)→(runG p m0 t).pc = p.Code.length→formM (codeM p (p.Code.length - 1)).1≠7∧formM (codeM p (p.Code.length - 1)).1≠8:=by
  intro t;induction t with
  | zero=>intro _ _ e0; exact absurd (show (0:Nat) = p.Code.length from e0) (by omega)
  | succ t ih =>
   intro ht hu e0;by_cases hp:(runG p m0 t).pc < p.Code.length
   ·
    rw [runG_pc hp] at e0;have e0:gPc p (runG p m0 t) (insG p m0 t) = p.Code.length:=e0;unfold gPc at e0;by_cases hg:goes (runG p m0 t) (insG p m0 t) = true
    ·
     rw [if_pos hg] at e0;by_cases hneg:0≤tgtM p ((runG p m0 t).pc:Int)
     ·
      have:=tgtM_lt hneg;omega
     · omega
    ·
     rw [if_neg hg,if_neg (hu t (by omega))] at e0;have e1:p.Code.length - 1 = (runG p m0 t).pc:=by omega
     rw [e1];refine ⟨?_,hu t (by omega)⟩;intro h7;apply hg;unfold goes;rw [show formM (insG p m0 t).1 = 7 from h7];rfl
   ·
    rw [runG_end hp] at e0;exact ih (by omega) (fun u hu'=>hu u (by omega)) e0
 obtain ⟨l1,l2⟩:=last n (Nat.le_refl _) (fun u hu=>(g.ps u hu).2.1) h2;obtain ⟨q,q1,q2,q3⟩:=WAt.fell h hw hn (fun h=>l1 (by rw [h]; decide)) (fun h=>l2 (by rw [h]; decide));exact ⟨q,q1,q2,q3,h2⟩
/-! Passing over what is not there -/
theorem Pl.skip (h:Spl p o s) (g:Pl p o s m0 e pos hal dn n j k) (hd:hal = false) (hpc:(runG p m0 n).pc < p.Code.length) (hn:n≤1000000000) (hj:j = (sndR o (insG p m0 n)).length) (hl1:lstS e o (insG p m0 n) (runG p m0 n).pc 0 = []) :
  Pl p o s m0 e pos hal dn (n+1) 0 k∧(runG p m0 (n+1)).pc = (runG p m0 n).pc+1∧((e = false∧formM (insG p m0 n).1≤3∧sideOM (insG p m0 n) o≠1)∨(e = true∧formM (insG p m0 n).1≤3∧sideOM (insG p m0 n) o = 1∧j = 0)∨(e = true∧formM (insG p m0 n).1 = 4∧onEM o (insG p m0 n).2.1 = false∧j = 0)):=by
 have hr:=insG_right h.right hpc;have hl:=em_len (p:=p) (o:=o) (n:=n) (e:=e) (m0:=m0);rw [hl1] at hl;have cs:(e = false∧formM (insG p m0 n).1≤3∧sideOM (insG p m0 n) o≠1)∨(e = true∧formM (insG p m0 n).1≤3∧sideOM (insG p m0 n) o = 1∧j = 0)∨(e = true∧formM (insG p m0 n).1 = 4∧onEM o (insG p m0 n).2.1 = false∧j = 0):=by
  unfold sndR at hj;unfold lstS lstA lstE at hl1;rw [hr] at hl1 hj
  revert hl1 hj
  cases e <;> simp only [Bool.false_eq_true,Bool.true_eq_false,if_false,if_true] <;> (repeat' split) <;> intro a b <;> simp_all <;> omega
 have hf:formM (insG p m0 n).1≤5:=by
  rcases cs with ⟨_,h,_⟩ | ⟨_,h,_⟩ | ⟨_,h,_⟩ <;> omega
 obtain ⟨w1,w2⟩:=WAt.skipG h g.wt hpc hn (by rw [hl]; exact hj) hf;refine ⟨⟨?_,w1,Nat.zero_le _,fun hh=>(by rw [hd] at hh; cases hh),by have:=g.bd; omega,?_⟩,w2,cs⟩
 ·
  rw [g.dc];show _ = ((cntS p o m0 e n+(sndR o (insG p m0 n)).length+(lstS e o (insG p m0 n) (runG p m0 n).pc 0).length+0:Nat):Int)+_;rw [hl1,hj];rfl
 intro t ht;by_cases e1:t = n
 ·
  subst e1;refine ⟨hpc,by omega,?_⟩
  unfold trS;rcases cs with ⟨rfl,h3,hs⟩ | ⟨rfl,h3,hs,_⟩ | ⟨rfl,h4,_⟩
  · rw [if_pos h3,if_neg (by simp [hs])]
  · rw [if_pos h3,if_neg (by simp [hs])]
  · rw [if_neg (by omega),if_pos rfl]
 · exact g.ps t (by omega)
end
end Go.Proofs.Zz
