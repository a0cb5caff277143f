/- A condition's text as a plain function; what may be has a short text. No program, no condition. Things in order: consecutive equals struck out; rising lists. Plain lists; no program, no condition. The order of texts and of things; what a condition asks for, in order, each once. Plain lists; no program, no condition. The things of a condition: gathered one by one, as sorted with equals struck out. Plain lists; no program, no condition. What a condition asks for, if it may be. No program, no condition. -/
import Derived.Test.YthaibjefnclkjaaGreatDoorAp4
import Derived.Lib.Bytealg
set_option linter.unusedVariables false
namespace Go.Proofs.YthaibjefnclkjaaGreatDoor
def regA (arch:Int) (n:Nat):Tx:=if arch=1 then regX n else regT n
def thText (arch:Int) (t:Th):Tx:=if t.thread = -1 then t.loc else Lib.itoa t.thread++[58]++regA arch t.reg.toNat
def atomT (arch:Int) (t:Th) (v:Int):Tx:=thText arch t++[61]++Lib.itoa v
def sepA:Tx:=[32,47,92,32]
def sepO:Tx:=[32,92,47,32]
def inB (b:Bool) (s:Tx):Tx:=if b then 40::s++[41] else s
def weak (and:Bool) (k:Int):Bool:=(and&&decide (k=4)) || decide (k=5)
mutual
def textN (arch:Int):Nd→Tx
 | .mk k t v a c l=>if k=1 then [116,114,117,101] else if k=2 then atomT arch t v else if k=3 then 126::textL arch true [] l else if k=4 then textL arch true sepA l else textL arch false sepO l
def textL (arch:Int) (and:Bool) (sep:Tx):List Nd→Tx
 | []=>[]
 | x::r=>inB (weak and x.kind) (textN arch x)++textR arch and sep r
def textR (arch:Int) (and:Bool) (sep:Tx):List Nd→Tx
 | []=>[]
 | x::r=>sep++(inB (weak and x.kind) (textN arch x)++textR arch and sep r)
end
theorem textN_eq (arch:Int) (x:Nd):textN arch x=if x.kind=1 then [116,114,117,101] else if x.kind=2 then atomT arch x.th x.val else if x.kind=3 then 126::textL arch true [] x.kids else if x.kind=4 then textL arch true sepA x.kids else textL arch false sepO x.kids:=by
 cases x;rw [textN];rfl
theorem textL_nil {arch:Int} {and:Bool} {sep:Tx} : textL arch and sep [] = []:=by rw [textL]
theorem textL_cons {arch:Int} {and:Bool} {sep:Tx} {x:Nd} {r:List Nd} : textL arch and sep (x::r)=inB (weak and x.kind) (textN arch x)++textR arch and sep r:=by rw [textL]
theorem textR_nil {arch:Int} {and:Bool} {sep:Tx} : textR arch and sep [] = []:=by rw [textR]
theorem textR_cons {arch:Int} {and:Bool} {sep:Tx} {x:Nd} {r:List Nd} : textR arch and sep (x::r)=sep++(inB (weak and x.kind) (textN arch x)++textR arch and sep r):=by rw [textR]
theorem textR_app {arch:Int} {and:Bool} {sep:Tx} : ∀ (l r:List Nd),textR arch and sep (l++r)=textR arch and sep l++textR arch and sep r
 | [],r=>by rw [textR_nil];rfl
 | x::l,r=>by rw [List.cons_append,textR_cons,textR_cons,textR_app l r];simp [List.append_assoc]
theorem textL_snoc {arch:Int} {and:Bool} {sep:Tx} (l:List Nd) (x:Nd):textL arch and sep (l++[x])=textL arch and sep l++(if l = [] then [] else sep)++inB (weak and x.kind) (textN arch x):=by
 cases l with
 | nil=>rw [List.nil_append,textL_cons,textL_nil,textR_nil];simp
 | cons y r=>rw [List.cons_append,textL_cons,textL_cons,textR_app,textR_cons,textR_nil];simp [List.append_assoc]
theorem textL_take {arch : Int} {and : Bool} {sep : Tx} {l : List Nd} {k : Nat} {x : Nd} (hk : l[k]? = some x) : textL arch and sep (l.take (k + 1)) = textL arch and sep (l.take k) ++ (if k = 0 then [] else sep) ++ inB (weak and x.kind) (textN arch x) := by
  obtain ⟨hlt, rfl⟩ := List.getElem?_eq_some_iff.1 hk
  rw [List.take_succ_eq_append_getElem hlt, textL_snoc]
  congr 2
  by_cases h0 : k = 0
  · subst h0; simp
  · have : l.take k ≠ [] := by
      intro e
      have hz : (l.take k).length = 0 := by rw [e]; rfl
      rw [List.length_take] at hz; omega
    rw [if_neg this, if_neg h0]
mutual
def cntN:Nd→Nat
 | .mk k t v a c l=>1+cntL l
def cntL:List Nd→Nat
 | []=>0
 | x::r=>cntN x+cntL r
end
theorem cntN_eq (x:Nd):cntN x=1+cntL x.kids:=by cases x;rw [cntN];rfl
theorem cntL_nil:cntL []=0:=by rw [cntL]
theorem cntL_cons {x:Nd} {r:List Nd} : cntL (x::r)=cntN x+cntL r:=by rw [cntL]
theorem cntL_mem {x:Nd} : ∀ {l:List Nd},x∈l→cntN x≤cntL l
 | y::r,h=>by
  rw [cntL_cons]
  rcases List.mem_cons.1 h with rfl|h
  ·omega
  ·have:=cntL_mem h;omega
theorem cntL_app : ∀ (l r:List Nd),cntL (l++r)=cntL l+cntL r
 | [],r=>by rw [cntL_nil];simp
 | x::l,r=>by rw [List.cons_append,cntL_cons,cntL_cons,cntL_app l r];omega
inductive OkN (arch:Int):Nd→Prop where
 | mk (x:Nd) (h:mayN arch x.kind x.th x.val x.kids.length=true) (hk : ∀ y∈x.kids,OkN arch y):OkN arch x
theorem OkN.may {arch:Int} {x:Nd} (h:OkN arch x):mayN arch x.kind x.th x.val x.kids.length=true:=by cases h;assumption
theorem OkN.kid {arch:Int} {x:Nd} (h:OkN arch x) : ∀ y∈x.kids,OkN arch y:=by cases h;assumption
theorem walk_ok (arch:Int) : ∀ (x:Nd) (met deep m:Nat),walkN arch x met deep=(m,0)→OkN arch x∧m=met+cntN x∧m≤1024:=by
 intro x
 induction x using Nd.ind with
 | h x ih =>
  intro met deep m h
  rw [walkN_eq] at h
  by_cases h1:1024≤met∨64≤deep
  ·rw [if_pos h1] at h;cases h
  rw [if_neg h1] at h
  by_cases h2:mayN arch x.kind x.th x.val x.kids.length=false
  ·rw [if_pos h2] at h;cases h
  rw [if_neg h2] at h
  have key : ∀ (l:List Nd),(∀ k∈l,k∈x.kids)→∀ met deep m,met≤1024→walkL arch l met deep=(m,0)→(∀ y∈l,OkN arch y)∧m=met+cntL l∧m≤1024:=by
   intro l
   induction l with
   | nil=>intro _ met deep m hm h;rw [walkL_nil] at h;cases h;exact ⟨fun y hy=>absurd hy (by simp),by rw [cntL_nil];omega,hm⟩
   | cons y r ihl =>
    intro hin met deep m hm h
    rw [walkL_cons] at h
    by_cases h3:(walkN arch y met deep).2=0
    ·rw [if_pos h3] at h
     obtain ⟨o1,e1,b1⟩:=ih y (hin y (by simp)) met deep (walkN arch y met deep).1 (by rw [← h3])
     obtain ⟨o2,e2,b2⟩:=ihl (fun k hk=>hin k (by simp [hk])) _ _ _ b1 h
     exact ⟨fun z hz=>by rcases List.mem_cons.1 hz with rfl|hz;exact o1;exact o2 z hz,by rw [cntL_cons];omega,b2⟩
    ·rw [if_neg h3] at h;rw [h] at h3;exact absurd rfl h3
  obtain ⟨o,e,b⟩:=key _ (fun k hk=>hk) _ _ _ (by omega) h
  exact ⟨⟨x,by simpa using h2,o⟩,by rw [cntN_eq];omega,b⟩
theorem cond_ok {arch q:Int} {x:Nd} (h:condE arch q x=0):archB arch=true∧1≤q∧q≤3∧OkN arch x∧cntN x≤1024:=by
 unfold condE at h
 by_cases ha:archB arch=false
 ·rw [if_pos ha] at h;cases h
 rw [if_neg ha] at h
 by_cases hq:q<1∨3<q
 ·rw [if_pos hq] at h;cases h
 rw [if_neg hq] at h
 obtain ⟨o,e,b⟩:=walk_ok arch x 0 0 (walkN arch x 0 0).1 (by rw [← h])
 exact ⟨by simpa using ha,by omega,by omega,o,by omega⟩
theorem mayN_kind {arch k v:Int} {t:Th} {n:Nat} (h:mayN arch k t v n=true):(k=1∧n=0)∨(k=2∧thingB arch t=true∧n32B v=true∧n=0)∨(k=3∧n=1)∨(k=4∧2≤n)∨(k=5∧2≤n):=by
 unfold mayN at h
 by_cases h2:k=2
 ·rw [if_pos h2] at h
  simp only [Bool.and_eq_true,decide_eq_true_eq] at h
  exact .inr (.inl ⟨h2,h.1.1,h.1.2,h.2⟩)
 rw [if_neg h2] at h
 simp only [Bool.and_eq_true,decide_eq_true_eq] at h
 obtain ⟨-,h⟩:=h
 by_cases h1:k=1
 ·rw [if_pos h1] at h;exact .inl ⟨h1,by simpa using h⟩
 rw [if_neg h1] at h
 by_cases h3:k=3
 ·rw [if_pos h3] at h;exact .inr (.inr (.inl ⟨h3,by simpa using h⟩))
 rw [if_neg h3] at h
 by_cases h4:k=4∨k=5
 ·rw [if_pos h4] at h
  rcases h4 with rfl|rfl
  ·exact .inr (.inr (.inr (.inl ⟨rfl,by simpa using h⟩)))
  ·exact .inr (.inr (.inr (.inr ⟨rfl,by simpa using h⟩)))
 ·rw [if_neg h4] at h;cases h
theorem thingB_cases {arch:Int} {t:Th} (h:thingB arch t=true):(t.thread = -1∧t.reg=0∧nameB t.loc=true)∨(∃ (i k:Nat),t=⟨i,k,[]⟩∧i<16∧(k:Int)<regsN arch):=by
 obtain ⟨th,rg,loc⟩:=t
 unfold thingB at h
 simp only at h
 by_cases h1:th = -1
 ·rw [if_pos h1] at h
  simp only [Bool.and_eq_true,decide_eq_true_eq] at h
  exact .inl ⟨h1,h.1,h.2⟩
 ·rw [if_neg h1] at h
  simp only [Bool.and_eq_true,decide_eq_true_eq] at h
  obtain ⟨⟨⟨⟨a,b⟩,c⟩,d⟩,e⟩:=h
  refine .inr ⟨th.toNat,rg.toNat,?_,by omega,by omega⟩
  simp only [Th.mk.injEq]
  exact ⟨by omega,by omega,e⟩
theorem regsN_le (arch:Int):regsN arch≤32:=by unfold regsN;split <;> omega
theorem regA_len {arch:Int} {k:Nat} (h:(k:Int)<regsN arch):(regA arch k).length≤5:=by
 unfold regA regsN at *
 split
 ·rename_i h1;rw [if_pos h1] at h;have:=regX_len (n:=k) (by omega);omega
 ·rename_i h1;rw [if_neg h1] at h;exact regT_len (by omega)
theorem thText_len {arch:Int} {t:Th} (h:thingB arch t=true):(thText arch t).length≤32:=by
 rcases thingB_cases h with ⟨h1,h2,h3⟩|⟨i,k,rfl,hi,hk⟩
 ·unfold thText;rw [if_pos h1];exact (nameB_cl h3).2
 ·unfold thText
  rw [if_neg (by simp only;omega)]
  have h1:=Lib.itoa_length_le (i:Int) (by omega) (by omega)
  have h2:=regA_len (arch:=arch) (k:=k) hk
  simp only [List.length_append,List.length_singleton,Int.toNat_natCast]
  omega
theorem inB_len (b:Bool) (s:Tx):(inB b s).length≤s.length+2:=by unfold inB;split <;> simp
theorem textN_len {arch:Int} : ∀ {x:Nd},OkN arch x→(textN arch x).length+10≤100 * cntN x:=by
 intro x
 induction x using Nd.ind with
 | h x ih =>
  intro h
  have key : ∀ (and:Bool) (sep:Tx) (l:List Nd),sep.length≤4→(∀ k∈l,k∈x.kids)→(textR arch and sep l).length≤100 * cntL l:=by
   intro and sep l hs
   induction l with
   | nil=>intro _;rw [textR_nil];simp
   | cons y r ihl =>
    intro hin
    have h1:=ih y (hin y (by simp)) (h.kid y (hin y (by simp)))
    have h2:=ihl (fun k hk=>hin k (by simp [hk]))
    have h3:=inB_len (weak and y.kind) (textN arch y)
    rw [textR_cons,cntL_cons]
    simp only [List.length_append]
    omega
  have keyL : ∀ (and:Bool) (sep:Tx) (l:List Nd),sep.length≤4→(∀ k∈l,k∈x.kids)→(textL arch and sep l).length≤100 * cntL l:=by
   intro and sep l hs hin
   cases l with
   | nil=>rw [textL_nil];simp
   | cons y r =>
    have h1:=ih y (hin y (by simp)) (h.kid y (hin y (by simp)))
    have h2:=key and sep r hs (fun k hk=>hin k (by simp [hk]))
    have h3:=inB_len (weak and y.kind) (textN arch y)
    rw [textL_cons,cntL_cons]
    simp only [List.length_append]
    omega
  rw [textN_eq,cntN_eq]
  rcases mayN_kind h.may with ⟨h1,h2⟩|⟨h1,h2,h3,h4⟩|⟨h1,h2⟩|⟨h1,h2⟩|⟨h1,h2⟩
  ·rw [h1];simp
   omega
  ·rw [h1]
   have a1:=thText_len h2
   have a2:=Lib.itoa_length_le x.val (by unfold n32B at h3;simp at h3;omega) (by unfold n32B at h3;simp at h3;omega)
   simp [atomT];omega
  ·rw [h1]
   have:=keyL true [] x.kids (by simp) (fun k hk=>hk)
   simp;omega
  ·rw [h1]
   have:=keyL true sepA x.kids (by simp [sepA]) (fun k hk=>hk)
   simp;omega
  ·rw [h1]
   have:=keyL false sepO x.kids (by simp [sepO]) (fun k hk=>hk)
   simp;omega
theorem textL_len {arch:Int} {and:Bool} {sep:Tx} (hs:sep.length≤4) : ∀ {l:List Nd},(∀ y∈l,OkN arch y)→(textL arch and sep l).length≤100 * cntL l:=by
 have key : ∀ (l:List Nd),(∀ y∈l,OkN arch y)→(textR arch and sep l).length≤100 * cntL l:=by
  intro l
  induction l with
  | nil=>intro _;rw [textR_nil];simp
  | cons y r ihl =>
   intro h
   have h1:=textN_len (h y (by simp))
   have h2:=ihl (fun k hk=>h k (by simp [hk]))
   have h3:=inB_len (weak and y.kind) (textN arch y)
   rw [textR_cons,cntL_cons]
   simp only [List.length_append]
   omega
 intro l h
 cases l with
 | nil=>rw [textL_nil];simp
 | cons y r =>
  have h1:=textN_len (h y (by simp))
  have h2:=key r (fun k hk=>h k (by simp [hk]))
  have h3:=inB_len (weak and y.kind) (textN arch y)
  rw [textL_cons,cntL_cons]
  simp only [List.length_append]
  omega
def headC (q:Int):Tx:=if q=1 then [101,120,105,115,116,115,32,40] else if q=2 then [126,101,120,105,115,116,115,32,40] else [102,111,114,97,108,108,32,40]
def textC (arch q:Int) (x:Nd):Tx:=headC q++textN arch x++[41]
set_option linter.unusedSectionVars false
section
variable {α:Type} [DecidableEq α]
def cmpct:List α→List α
 | []=>[]
 | x::r=>match r with
  | []=>[x]
  | y::_=>if x=y then cmpct r else x::cmpct r
theorem cmpct_nil:cmpct ([]:List α) = []:=rfl
theorem cmpct_one (x:α):cmpct [x] = [x]:=rfl
theorem cmpct_cons (x y:α) (r:List α):cmpct (x::y::r)=if x=y then cmpct (y::r) else x::cmpct (y::r):=rfl
theorem cmpct_snoc : ∀ (l:List α) (y x:α),cmpct (l++[y]++[x])=if x=y then cmpct (l++[y]) else cmpct (l++[y])++[x]
 | [],y,x=>by
  simp only [List.nil_append,List.cons_append,cmpct_cons,cmpct_one]
  by_cases h:x=y
  ·rw [if_pos h.symm,if_pos h,h]
  ·rw [if_neg (Ne.symm h),if_neg h]
 | [z],y,x=>by
  simp only [List.nil_append,List.cons_append,cmpct_cons,cmpct_one]
  by_cases h:x=y <;> by_cases h':z=y <;> simp [h,h',eq_comm] <;> (try (intro h2;exact absurd h2.symm h)) <;> simp_all [eq_comm]
 | z::u::r,y,x=>by
  have ih:=cmpct_snoc (u::r) y x
  simp only [List.cons_append] at ih ⊢
  rw [cmpct_cons,cmpct_cons,ih]
  by_cases h:x=y <;> by_cases h':z=u <;> simp [h,h']
theorem cmpct_mem {l:List α} {z:α} : z∈cmpct l↔z∈l:=by
 induction l with
 | nil=>simp [cmpct_nil]
 | cons x r ih =>
  cases r with
  | nil=>simp [cmpct_one]
  | cons y r =>
   rw [cmpct_cons]
   by_cases h:x=y
   ·rw [if_pos h,ih];simp [h]
   ·rw [if_neg h,List.mem_cons,ih];simp
theorem cmpct_self {l:List α} (h : ∀ i (h1:i+1<l.length),l[i+1]≠l[i]'(by omega)):cmpct l=l:=by
 induction l with
 | nil=>rfl
 | cons x r ih =>
  cases r with
  | nil=>rfl
  | cons y r =>
   have h0:=h 0 (by simp)
   simp at h0
   rw [cmpct_cons,if_neg (Ne.symm h0),ih (fun i h1=>by have:=h (i+1) (by simp at h1 ⊢;omega);simpa using this)]
theorem cmpct_length_le (l:List α):(cmpct l).length≤l.length:=by
 induction l with
 | nil=>simp [cmpct_nil]
 | cons x r ih =>
  cases r with
  | nil=>simp [cmpct_one]
  | cons y r =>
   rw [cmpct_cons]
   split
   ·simp at ih ⊢;omega
   ·simp at ih ⊢;omega
theorem rise_ext {lt:α→α→Prop} (irr : ∀ a,¬ lt a a) (asy : ∀ a b,lt a b→lt b a→False) : ∀ {l r:List α},l.Pairwise lt→r.Pairwise lt→(∀ x,x∈l↔x∈r)→l=r
 | [],[],_,_,_=>rfl
 | [],y::r,_,_,h=>by have:=(h y).2 (by simp);simp at this
 | x::l,[],_,_,h=>by have:=(h x).1 (by simp);simp at this
 | x::l,y::r,h1,h2,h=>by
  obtain ⟨a1,b1⟩:=List.pairwise_cons.1 h1
  obtain ⟨a2,b2⟩:=List.pairwise_cons.1 h2
  have hxy:x=y:=by
   have hx:=(h x).1 (by simp)
   have hy:=(h y).2 (by simp)
   rcases List.mem_cons.1 hx with e|hx
   ·exact e
   ·rcases List.mem_cons.1 hy with e|hy
    ·exact e.symm
    ·exact (asy _ _ (a2 x hx) (a1 y hy)).elim
  subst hxy
  have:l=r:=rise_ext irr asy b1 b2 (fun z=>by
   have hz:=h z
   simp only [List.mem_cons] at hz
   constructor
   ·intro hm
    rcases hz.1 (.inr hm) with e|e
    ·subst e;exact (irr _ (a1 _ hm)).elim
    ·exact e
   ·intro hm
    rcases hz.2 (.inr hm) with e|e
    ·subst e;exact (irr _ (a2 _ hm)).elim
    ·exact e)
  rw [this]
theorem cmpct_rise {lt:α→α→Prop} (tr : ∀ a b c,lt a b→lt b c→lt a c) : ∀ {l:List α},l.Pairwise (fun a b=>a=b∨lt a b)→(cmpct l).Pairwise lt
 | [],_=>List.Pairwise.nil
 | [x],_=>by rw [cmpct_one];simp
 | x::y::r,h=>by
  obtain ⟨a1,b1⟩:=List.pairwise_cons.1 h
  have ih:=cmpct_rise tr b1
  rw [cmpct_cons]
  by_cases e:x=y
  ·rw [if_pos e];exact ih
  ·rw [if_neg e,List.pairwise_cons]
   refine ⟨fun z hz=>?_,ih⟩
   have hz:=cmpct_mem.1 hz
   have hxy:lt x y:=(a1 y (by simp)).resolve_left e
   rcases a1 z hz with e'|e'
   ·subst e'
    rcases List.mem_cons.1 hz with e2|e2
    ·exact absurd e2 e
    ·rcases (List.pairwise_cons.1 b1).1 x e2 with e3|e3
     ·exact absurd e3.symm e
     ·exact tr _ _ _ hxy e3
   ·exact e'
end
def ltX:Tx→Tx→Bool
 | [],[]=>false
 | [],_::_=>true
 | _::_,[]=>false
 | a::s,b::t=>if a<b then true else if b<a then false else ltX s t
theorem u8_lt_irr (a:UInt8) : ¬ a<a:=by rw [UInt8.lt_iff_toNat_lt];omega
theorem u8_lt_tr {a b c:UInt8} (h:a<b) (h':b<c):a<c:=by rw [UInt8.lt_iff_toNat_lt] at *;omega
theorem u8_lt_as {a b:UInt8} (h:a<b) : ¬ b<a:=by rw [UInt8.lt_iff_toNat_lt] at *;omega
theorem u8_lt_tri {a b:UInt8} (h : ¬ a<b) (h' : ¬ b<a):a=b:=by rw [UInt8.lt_iff_toNat_lt] at *;exact UInt8.toNat_inj.1 (by omega)
theorem ltX_irr : ∀ a,ltX a a=false
 | []=>rfl
 | a::s=>by unfold ltX;rw [if_neg (u8_lt_irr a),if_neg (u8_lt_irr a)];exact ltX_irr s
theorem ltX_asy : ∀ {a b:Tx},ltX a b=true→ltX b a=false
 | [],[],h=>by cases h
 | [],_::_,_=>rfl
 | _::_,[],h=>by cases h
 | a::s,b::t,h=>by
  unfold ltX at h ⊢
  by_cases h1:a<b
  ·rw [if_neg (u8_lt_as h1),if_pos h1]
  ·rw [if_neg h1] at h
   by_cases h2:b<a
   ·rw [if_pos h2] at h;cases h
   ·rw [if_neg h2] at h ⊢;rw [if_neg h1];exact ltX_asy h
theorem ltX_tri : ∀ {a b:Tx},ltX a b=false→ltX b a=false→a=b
 | [],[],_,_=>rfl
 | [],_::_,h,_=>by cases h
 | _::_,[],_,h=>by cases h
 | a::s,b::t,h,h'=>by
  unfold ltX at h h'
  by_cases h1:a<b
  ·rw [if_pos h1] at h;cases h
  rw [if_neg h1] at h h'
  by_cases h2:b<a
  ·rw [if_pos h2] at h';cases h'
  rw [if_neg h2] at h h'
  rw [u8_lt_tri h1 h2,ltX_tri h h']
theorem ltX_tr : ∀ {a b c:Tx},ltX a b=true→ltX b c=true→ltX a c=true
 | [],[],_,h,_=>by cases h
 | [],_::_,[],_,h=>by cases h
 | [],_::_,_::_,_,_=>rfl
 | _::_,[],_,h,_=>by cases h
 | _::_,_::_,[],_,h=>by cases h
 | a::s,b::t,c::cs,h,h'=>by
  unfold ltX at h h' ⊢
  by_cases h1:a<b
  ·by_cases h2:b<c
   ·rw [if_pos (u8_lt_tr h1 h2)]
   ·rw [if_neg h2] at h'
    by_cases h3:c<b
    ·rw [if_pos h3] at h';cases h'
    ·have:=u8_lt_tri h2 h3;subst this;rw [if_pos h1]
  ·rw [if_neg h1] at h
   by_cases h2:b<a
   ·rw [if_pos h2] at h;cases h
   ·rw [if_neg h2] at h
    have:=u8_lt_tri h1 h2;subst this
    by_cases h3:a<c
    ·rw [if_pos h3]
    ·rw [if_neg h3] at h' ⊢
     by_cases h4:c<a
     ·rw [if_pos h4] at h';cases h'
     ·rw [if_neg h4] at h' ⊢;exact ltX_tr h h'
theorem compare_neg : ∀ (a b:Tx),decide (Lib.compareBytes a b<0)=ltX a b
 | [],[]=>rfl
 | [],_::_=>rfl
 | _::_,[]=>rfl
 | a::s,b::t=>by
  unfold Lib.compareBytes ltX
  by_cases h1:a<b
  ·rw [if_pos h1,if_pos h1];rfl
  ·rw [if_neg h1,if_neg h1]
   by_cases h2:b<a
   ·rw [if_pos h2,if_pos h2];rfl
   ·rw [if_neg h2,if_neg h2];exact compare_neg s t
def cfT (a b:Th):Int :=
 if a.thread = -1∧b.thread = -1 then Lib.compareBytes a.loc b.loc
 else if a.thread = -1 then 1 else if b.thread = -1 then -1
 else if a.thread≠b.thread then a.thread-b.thread else a.reg-b.reg
def befT (a b:Th):Bool :=
 if (a.thread = -1)≠(b.thread = -1) then decide (b.thread = -1)
 else if a.thread≠b.thread then decide (a.thread<b.thread)
 else if a.reg≠b.reg then decide (a.reg<b.reg)
 else ltX a.loc b.loc
abbrev VTh:={ t:Th // thingB 2 t=true }
instance:Inhabited VTh:=⟨⟨⟨0,0,[]⟩,by decide⟩⟩
theorem vth_cases (t:VTh):(t.1.thread = -1∧t.1.reg=0)∨(0≤t.1.thread∧t.1.thread<16∧0≤t.1.reg∧t.1.reg<32∧t.1.loc = []):=by
 obtain ⟨t,h⟩:=t
 rcases thingB_cases h with ⟨h1,h2,h3⟩|⟨i,k,rfl,hi,hk⟩
 ·exact .inl ⟨h1,h2⟩
 ·exact .inr ⟨by simp only;omega,by simp only;omega,by simp only;omega,by simp only;unfold regsN at hk;rw [if_neg (by omega)] at hk;omega,rfl⟩
theorem cf_bef (a b:VTh):decide (cfT a.1 b.1<0)=befT a.1 b.1:=by
 unfold cfT befT
 rcases vth_cases a with ⟨a1,a2⟩|⟨a1,a2,a3,a4,a5⟩
 ·rcases vth_cases b with ⟨b1,b2⟩|⟨b1,b2,b3,b4,b5⟩
  ·rw [if_pos ⟨a1,b1⟩,if_neg (by simp [a1,b1]),if_neg (by simp [a1,b1]),if_neg (by simp [a2,b2]),compare_neg]
  ·rw [if_neg (by omega),if_pos a1,if_pos (by simp [a1];omega)];simp;omega
 ·rcases vth_cases b with ⟨b1,b2⟩|⟨b1,b2,b3,b4,b5⟩
  ·rw [if_neg (by omega),if_neg (by omega),if_pos b1,if_pos (by simp [b1];omega)];simp;omega
  ·have n1 : ¬ ((a.1.thread = -1)≠(b.1.thread = -1)):=by simp;omega
   rw [if_neg (by omega),if_neg (by omega),if_neg (by omega),if_neg (c:=(a.1.thread = -1)≠(b.1.thread = -1)) n1]
   by_cases h:a.1.thread=b.1.thread
   ·rw [if_neg (by simpa using h),if_neg (by simpa using h)]
    by_cases h2:a.1.reg=b.1.reg
    ·rw [if_neg (by simpa using h2),a5,b5,h2];simp [ltX]
    ·rw [if_pos h2];rw [Bool.eq_iff_iff];simp;omega
   ·rw [if_pos h,if_pos h];rw [Bool.eq_iff_iff];simp;omega
def ltV (a b:VTh):Prop:=befT a.1 b.1=true
theorem ltV_irr (a:VTh) : ¬ ltV a a:=by
 unfold ltV befT;simp [ltX_irr]
theorem ltV_cases {a b:VTh} (h:ltV a b):(a.1.thread≠-1∧b.1.thread = -1)∨(a.1.thread = -1∧b.1.thread = -1∧ltX a.1.loc b.1.loc=true)∨(a.1.thread≠-1∧b.1.thread≠-1∧(a.1.thread<b.1.thread∨a.1.thread=b.1.thread∧a.1.reg<b.1.reg)):=by
 unfold ltV befT at h
 rcases vth_cases a with ⟨a1,a2⟩|⟨a1,a2,a3,a4,a5⟩
 ·rcases vth_cases b with ⟨b1,b2⟩|⟨b1,b2,b3,b4,b5⟩
  ·rw [if_neg (by simp [a1,b1]),if_neg (by simp [a1,b1]),if_neg (by simp [a2,b2])] at h
   exact .inr (.inl ⟨a1,b1,h⟩)
  ·rw [if_pos (by simp [a1];omega)] at h;simp at h;omega
 ·rcases vth_cases b with ⟨b1,b2⟩|⟨b1,b2,b3,b4,b5⟩
  ·exact .inl ⟨by omega,b1⟩
  ·rw [if_neg (by simp;omega)] at h
   refine .inr (.inr ⟨by omega,by omega,?_⟩)
   by_cases h1:a.1.thread=b.1.thread
   ·rw [if_neg (by simpa using h1)] at h
    by_cases h2:a.1.reg=b.1.reg
    ·rw [if_neg (by simpa using h2),a5,b5] at h;simp [ltX] at h
    ·rw [if_pos h2] at h;exact .inr ⟨h1,by simpa using h⟩
   ·rw [if_pos h1] at h;exact .inl (by simpa using h)
theorem ltV_mk {a b:VTh} (h:(a.1.thread≠-1∧b.1.thread = -1)∨(a.1.thread = -1∧b.1.thread = -1∧ltX a.1.loc b.1.loc=true)∨(a.1.thread≠-1∧b.1.thread≠-1∧(a.1.thread<b.1.thread∨a.1.thread=b.1.thread∧a.1.reg<b.1.reg))):ltV a b:=by
 unfold ltV befT
 rcases h with ⟨h1,h2⟩|⟨h1,h2,h3⟩|⟨h1,h2,h3⟩
 ·rw [if_pos (by simp [h1,h2])];simpa using h2
 ·have ha:=vth_cases a;have hb:=vth_cases b
  rw [if_neg (by simp [h1,h2]),if_neg (by simp [h1,h2]),if_neg (by omega)];exact h3
 ·rw [if_neg (by simp [h1,h2])]
  rcases h3 with h3|⟨h3,h4⟩
  ·rw [if_pos (by omega)];simpa using h3
  ·rw [if_neg (by omega),if_pos (by omega)];simpa using h4
theorem ltV_tr (a b c:VTh) (h:ltV a b) (h':ltV b c):ltV a c:=by
 apply ltV_mk
 rcases ltV_cases h with ⟨h1,h2⟩|⟨h1,h2,h3⟩|⟨h1,h2,h3⟩ <;> rcases ltV_cases h' with ⟨k1,k2⟩|⟨k1,k2,k3⟩|⟨k1,k2,k3⟩
 all_goals first|exact absurd h2 k1|exact absurd k1 h2|(exact .inl ⟨h1,k2⟩)|(exact .inr (.inl ⟨h1,k2,ltX_tr h3 k3⟩))|(exact .inr (.inr ⟨h1,k2,by omega⟩))
theorem ltV_asy (a b:VTh) (h:ltV a b) (h':ltV b a):False:=ltV_irr a (ltV_tr a b a h h')
theorem ltV_tri (a b:VTh) (h : ¬ ltV a b) (h' : ¬ ltV b a):a=b:=by
 apply Subtype.ext
 apply (th_ext _ _).2
 rcases vth_cases a with ⟨a1,a2⟩|⟨a1,a2,a3,a4,a5⟩
 ·rcases vth_cases b with ⟨b1,b2⟩|⟨b1,b2,b3,b4,b5⟩
  ·refine ⟨by omega,by omega,ltX_tri ?_ ?_⟩
   ·rw [Bool.eq_false_iff];exact fun e=>h (ltV_mk (.inr (.inl ⟨a1,b1,e⟩)))
   ·rw [Bool.eq_false_iff];exact fun e=>h' (ltV_mk (.inr (.inl ⟨b1,a1,e⟩)))
  ·exact absurd (ltV_mk (.inl ⟨by omega,a1⟩)) h'
 ·rcases vth_cases b with ⟨b1,b2⟩|⟨b1,b2,b3,b4,b5⟩
  ·exact absurd (ltV_mk (.inl ⟨by omega,b1⟩)) h
  ·have h1 : ¬ (a.1.thread<b.1.thread∨a.1.thread=b.1.thread∧a.1.reg<b.1.reg):=fun e=>h (ltV_mk (.inr (.inr ⟨by omega,by omega,e⟩)))
   have h2 : ¬ (b.1.thread<a.1.thread∨b.1.thread=a.1.thread∧b.1.reg<a.1.reg):=fun e=>h' (ltV_mk (.inr (.inr ⟨by omega,by omega,e⟩)))
   exact ⟨by omega,by omega,by rw [a5,b5]⟩
mutual
def atomsN:Nd→List Th
 | .mk k t v a c l=>(if k=2 then [t] else [])++atomsL l
def atomsL:List Nd→List Th
 | []=>[]
 | x::r=>atomsN x++atomsL r
end
theorem atomsN_eq (x:Nd):atomsN x=(if x.kind=2 then [x.th] else [])++atomsL x.kids:=by cases x;rw [atomsN];rfl
theorem atomsL_nil:atomsL [] = []:=by rw [atomsL]
theorem atomsL_cons {x:Nd} {r:List Nd} : atomsL (x::r)=atomsN x++atomsL r:=by rw [atomsL]
theorem atomsL_app : ∀ (l r:List Nd),atomsL (l++r)=atomsL l++atomsL r
 | [],r=>by rw [atomsL_nil];rfl
 | x::l,r=>by rw [List.cons_append,atomsL_cons,atomsL_cons,atomsL_app l r,List.append_assoc]
theorem atomsL_take {l:List Nd} {k:Nat} {x:Nd} (hk:l[k]? = some x):atomsL (l.take (k+1))=atomsL (l.take k)++atomsN x:=by
 obtain ⟨hlt,rfl⟩:=List.getElem?_eq_some_iff.1 hk
 rw [List.take_succ_eq_append_getElem hlt,atomsL_app,atomsL_cons,atomsL_nil,List.append_nil]
def insT (t:Th):List Th→List Th
 | []=>[t]
 | y::r=>if befT t y then t::y::r else y::insT t r
def putT (t:Th) (l:List Th):List Th:=if t∈l then l else insT t l
mutual
def gatherN:Nd→List Th→List Th
 | .mk k t v a c l,acc=>if k=2 then putT t acc else gatherL l acc
def gatherL:List Nd→List Th→List Th
 | [],acc=>acc
 | x::r,acc=>gatherL r (gatherN x acc)
end
theorem gatherN_eq (x:Nd) (acc:List Th):gatherN x acc=if x.kind=2 then putT x.th acc else gatherL x.kids acc:=by cases x;rw [gatherN];rfl
theorem gatherL_nil {acc:List Th} : gatherL [] acc=acc:=by rw [gatherL]
theorem gatherL_cons {x:Nd} {r:List Nd} {acc:List Th} : gatherL (x::r) acc=gatherL r (gatherN x acc):=by rw [gatherL]
theorem gatherL_app : ∀ (l r:List Nd) (acc:List Th),gatherL (l++r) acc=gatherL r (gatherL l acc)
 | [],r,acc=>by rw [gatherL_nil];rfl
 | x::l,r,acc=>by rw [List.cons_append,gatherL_cons,gatherL_cons,gatherL_app l r]
theorem gatherL_take {l:List Nd} {k:Nat} {x:Nd} (hk:l[k]? = some x) (acc:List Th):gatherL (l.take (k+1)) acc=gatherN x (gatherL (l.take k) acc):=by
 obtain ⟨hlt,rfl⟩:=List.getElem?_eq_some_iff.1 hk
 rw [List.take_succ_eq_append_getElem hlt,gatherL_app,gatherL_cons,gatherL_nil]
def thingsN (x:Nd):List Th:=gatherN x []
theorem OkN.thing {arch:Int} {x:Nd} (h:OkN arch x) (hk:x.kind=2):thingB arch x.th=true∧x.kids = []:=by
 rcases mayN_kind h.may with ⟨h1,h2⟩|⟨h1,h2,h3,h4⟩|⟨h1,h2⟩|⟨h1,h2⟩|⟨h1,h2⟩
 ·omega
 ·exact ⟨h2,List.eq_nil_of_length_eq_zero h4⟩
 ·omega
 ·omega
 ·omega
theorem thingB_up {arch:Int} {t:Th} (h:thingB arch t=true):thingB 2 t=true:=by
 unfold thingB at *
 by_cases h1:t.thread = -1
 ·rw [if_pos h1] at h ⊢;exact h
 ·rw [if_neg h1] at h ⊢
  have:=regsN_le arch
  simp only [Bool.and_eq_true,decide_eq_true_eq] at h ⊢
  refine ⟨⟨h.1.1,?_⟩,h.2⟩
  unfold regsN;rw [if_neg (by omega)];omega
theorem mayN_up {arch k v:Int} {t:Th} {n:Nat} (h:mayN arch k t v n=true):mayN 2 k t v n=true:=by
 unfold mayN at *
 by_cases h2:k=2
 ·rw [if_pos h2] at h ⊢
  simp only [Bool.and_eq_true] at h ⊢
  exact ⟨⟨thingB_up h.1.1,h.1.2⟩,h.2⟩
 ·rw [if_neg h2] at h ⊢;exact h
theorem OkN.up {arch:Int} : ∀ {x:Nd},OkN arch x→OkN 2 x:=by
 intro x
 induction x using Nd.ind with
 | h x ih=>intro h;exact ⟨x,mayN_up h.may,fun y hy=>ih y hy (h.kid y hy)⟩
theorem atoms_ok : ∀ {x:Nd},OkN 2 x→∀ t∈atomsN x,thingB 2 t=true:=by
 intro x
 induction x using Nd.ind with
 | h x ih =>
  intro h t ht
  rw [atomsN_eq] at ht
  have key : ∀ (l:List Nd),(∀ y∈l,y∈x.kids)→∀ t∈atomsL l,thingB 2 t=true:=by
   intro l
   induction l with
   | nil=>intro _ t ht;rw [atomsL_nil] at ht;simp at ht
   | cons y r ihl =>
    intro hin t ht
    rw [atomsL_cons] at ht
    rcases List.mem_append.1 ht with h1|h1
    ·exact ih y (hin y (by simp)) (h.kid y (hin y (by simp))) t h1
    ·exact ihl (fun k hk=>hin k (by simp [hk])) t h1
  rcases List.mem_append.1 ht with h1|h1
  ·by_cases hk:x.kind=2
   ·rw [if_pos hk] at h1;simp at h1;subst h1;exact (h.thing hk).1
   ·rw [if_neg hk] at h1;simp at h1
  ·exact key _ (fun y hy=>hy) t h1
theorem atomsN_len : ∀ (x:Nd),(atomsN x).length≤cntN x:=by
 intro x
 induction x using Nd.ind with
 | h x ih =>
  rw [atomsN_eq,cntN_eq,List.length_append]
  have key : ∀ (l:List Nd),(∀ y∈l,y∈x.kids)→(atomsL l).length≤cntL l:=by
   intro l
   induction l with
   | nil=>intro _;rw [atomsL_nil];simp
   | cons y r ihl =>
    intro hin
    rw [atomsL_cons,cntL_cons,List.length_append]
    have:=ih y (hin y (by simp))
    have:=ihl (fun k hk=>hin k (by simp [hk]))
    omega
  have:=key _ (fun y hy=>hy)
  split <;> simp <;> omega
def toV (l:List Th) (h : ∀ t∈l,thingB 2 t=true):List VTh:=l.pmap (fun t ht=>⟨t,ht⟩) h
theorem toV_val (l:List Th) (h : ∀ t∈l,thingB 2 t=true):(toV l h).map (·.1)=l:=by
 unfold toV;rw [List.map_pmap];simp
theorem toV_mem {l:List Th} {h : ∀ t∈l,thingB 2 t=true} {v:VTh} : v∈toV l h↔v.1∈l:=by
 constructor
 ·intro hv
  rw [← toV_val l h];exact List.mem_map_of_mem hv
 ·intro hv
  rw [← toV_val l h] at hv
  obtain ⟨u,hu,e⟩:=List.mem_map.1 hv
  rw [← Subtype.ext e];exact hu
def RiseT (l:List Th):Prop:=l.Pairwise fun a b=>befT a b=true
theorem insT_mem {t:Th} {z:Th} : ∀ {l:List Th},z∈insT t l↔z=t∨z∈l
 | []=>by simp [insT]
 | y::r=>by
  unfold insT
  split
  ·simp
  ·simp only [List.mem_cons,insT_mem (l:=r)]
   constructor
   ·rintro (h|h|h)
    ·exact .inr (.inl h)
    ·exact .inl h
    ·exact .inr (.inr h)
   ·rintro (h|h|h)
    ·exact .inr (.inl h)
    ·exact .inl h
    ·exact .inr (.inr h)
theorem putT_mem {t:Th} {z:Th} {l:List Th} : z∈putT t l↔z=t∨z∈l:=by
 unfold putT
 split
 ·rename_i h
  constructor
  ·exact .inr
  ·rintro (rfl|h')
   ·exact h
   ·exact h'
 ·exact insT_mem
theorem insT_rise {t:Th} (ht:thingB 2 t=true) : ∀ {l:List Th},(∀ z∈l,thingB 2 z=true)→t∉l→RiseT l→RiseT (insT t l)
 | [],_,_,_=>by unfold insT RiseT;simp
 | y::r,hv,hn,h=>by
  obtain ⟨a1,b1⟩:=List.pairwise_cons.1 h
  have hy:=hv y (by simp)
  unfold insT
  by_cases hb:befT t y=true
  ·rw [if_pos hb]
   unfold RiseT
   rw [List.pairwise_cons]
   refine ⟨fun z hz=>?_,h⟩
   rcases List.mem_cons.1 hz with rfl|hz
   ·exact hb
   ·exact ltV_tr ⟨t,ht⟩ ⟨y,hy⟩ ⟨z,hv z (by simp [hz])⟩ hb (a1 z hz)
  ·rw [if_neg hb]
   unfold RiseT
   rw [List.pairwise_cons]
   refine ⟨fun z hz=>?_,insT_rise ht (fun z hz=>hv z (by simp [hz])) (fun h=>hn (by simp [h])) b1⟩
   rcases insT_mem.1 hz with rfl|hz
   ·by_cases h2:befT y z=true
    ·exact h2
    ·have:=ltV_tri ⟨z,ht⟩ ⟨y,hy⟩ hb h2
     simp only [Subtype.mk.injEq] at this
     exact absurd (by rw [this];simp) hn
   ·exact a1 z hz
theorem putT_rise {t:Th} (ht:thingB 2 t=true) {l:List Th} (hv : ∀ z∈l,thingB 2 z=true) (h:RiseT l):RiseT (putT t l):=by
 unfold putT
 split
 ·exact h
 ·rename_i hn;exact insT_rise ht hv hn h
theorem putT_len {t:Th} {l:List Th} : (putT t l).length≤l.length+1:=by
 have : ∀ l:List Th,(insT t l).length=l.length+1:=by
  intro l
  induction l with
  | nil=>rfl
  | cons y r ih=>unfold insT;split <;> simp [ih]
 unfold putT
 split
 ·omega
 ·rw [this];omega
theorem gather_ok : ∀ {x:Nd},OkN 2 x→∀ {acc:List Th},(∀ z∈acc,thingB 2 z=true)→RiseT acc→(∀ z∈gatherN x acc,thingB 2 z=true)∧RiseT (gatherN x acc)∧(∀ z,z∈gatherN x acc↔z∈atomsN x∨z∈acc)∧(gatherN x acc).length≤acc.length+cntN x:=by
 intro x
 induction x using Nd.ind with
 | h x ih =>
  intro h acc hv hr
  rw [gatherN_eq,atomsN_eq,cntN_eq]
  by_cases hk:x.kind=2
  ·obtain ⟨h1,h2⟩:=h.thing hk
   rw [if_pos hk,if_pos hk,h2,atomsL_nil,cntL_nil]
   refine ⟨fun z hz=>?_,putT_rise h1 hv hr,fun z=>by rw [putT_mem];simp,putT_len⟩
   rcases putT_mem.1 hz with rfl|hz
   ·exact h1
   ·exact hv z hz
  ·rw [if_neg hk,if_neg hk]
   have key : ∀ (l:List Nd),(∀ y∈l,y∈x.kids)→∀ {acc:List Th},(∀ z∈acc,thingB 2 z=true)→RiseT acc→(∀ z∈gatherL l acc,thingB 2 z=true)∧RiseT (gatherL l acc)∧(∀ z,z∈gatherL l acc↔z∈atomsL l∨z∈acc)∧(gatherL l acc).length≤acc.length+cntL l:=by
    intro l
    induction l with
    | nil=>intro _ acc hv hr;rw [gatherL_nil,atomsL_nil,cntL_nil];exact ⟨hv,hr,fun z=>by simp,by omega⟩
    | cons y r ihl =>
     intro hin acc hv hr
     rw [gatherL_cons,atomsL_cons,cntL_cons]
     obtain ⟨a1,a2,a3,a4⟩:=ih y (hin y (by simp)) (h.kid y (hin y (by simp))) hv hr
     obtain ⟨b1,b2,b3,b4⟩:=ihl (fun k hk=>hin k (by simp [hk])) a1 a2
     refine ⟨b1,b2,fun z=>?_,by omega⟩
     rw [b3,a3,List.mem_append]
     constructor
     ·rintro (h|h|h)
      ·exact .inl (.inr h)
      ·exact .inl (.inl h)
      ·exact .inr h
     ·rintro ((h|h)|h)
      ·exact .inr (.inl h)
      ·exact .inl h
      ·exact .inr (.inr h)
   obtain ⟨k1,k2,k3,k4⟩:=key x.kids (fun y hy=>hy) hv hr
   exact ⟨k1,k2,fun z=>by rw [k3];simp,by omega⟩
theorem things_ok {x:Nd} (h:OkN 2 x):(∀ z∈thingsN x,thingB 2 z=true)∧RiseT (thingsN x)∧(∀ z,z∈thingsN x↔z∈atomsN x)∧(thingsN x).length≤cntN x:=by
 obtain ⟨h1,h2,h3,h4⟩:=gather_ok h (acc:=[]) (by simp) List.Pairwise.nil
 unfold thingsN
 exact ⟨h1,h2,fun z=>by have:=h3 z;simpa using this,by simpa using h4⟩
theorem sorted_things {x : Nd} (h : OkN 2 x) (le : VTh → VTh → Bool) (hle : ∀ a b, le a b = !befT b.1 a.1) :
    (cmpct ((toV (atomsN x) (atoms_ok h)).mergeSort le)).map (·.1) = thingsN x := by
  obtain ⟨h1, h2, h3, -⟩ := things_ok h
  have hs := List.pairwise_mergeSort (le := le) (fun a b c hab hbc => by
      rw [hle] at *
      simp only [Bool.not_eq_true', Bool.eq_false_iff] at *
      intro hca
      by_cases hcb : ltV c b
      · exact hbc hcb
      · by_cases hbc' : ltV b c
        · exact hab (ltV_tr b c a hbc' hca)
        · have := ltV_tri b c hbc' hcb; subst this; exact hab hca)
    (fun a b => by
      rw [hle, hle]
      by_cases h1 : befT b.1 a.1 = true
      · have : befT a.1 b.1 = false := by rw [Bool.eq_false_iff]; exact fun h2 => ltV_asy a b h2 h1
        rw [h1, this]; rfl
      · rw [Bool.eq_false_iff.2 h1]; rfl)
    (toV (atomsN x) (atoms_ok h))
  have hr := cmpct_rise (lt := ltV) ltV_tr (hs.imp (fun {a b} hab => by
    rw [hle] at hab
    simp only [Bool.not_eq_true', Bool.eq_false_iff] at hab
    by_cases h1 : ltV a b
    · exact .inr h1
    · exact .inl (ltV_tri a b h1 hab)))
  have hg : (toV (thingsN x) h1).Pairwise ltV := by
    have : ((toV (thingsN x) h1).map (·.1)).Pairwise fun a b => befT a b = true := by rw [toV_val]; exact h2
    exact (List.pairwise_map (f := fun v : VTh => v.1) (R := fun a b => befT a b = true)).1 this
  have e := rise_ext ltV_irr ltV_asy hr hg (fun v => by
    rw [cmpct_mem, List.mem_mergeSort, toV_mem, toV_mem, h3])
  rw [e, toV_val]
def thingsC (q:Int) (x:Nd):List Th:=if condE 2 q x=0 then thingsN x else []
end Go.Proofs.YthaibjefnclkjaaGreatDoor
