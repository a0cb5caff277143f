/- Conditions of unlike nodes have unlike texts: atoms. Plain lists; no program, no condition. Conditions of unlike nodes have unlike texts. Plain lists; no program, no condition. Unlike tests have unlike texts. Plain lists; the tests may be printed. The walk of the law FileApart. Conditions: the tests lie in memory as read; the library's variables as laid. -/
import Derived.Test.YthaibjefnclkjaaGreatDoorAp39
set_option linter.unusedVariables false
set_option maxRecDepth 100000
set_option maxHeartbeats 3200000
namespace Go.Proofs.YthaibjefnclkjaaGreatDoor
def tokC (b:UInt8):Bool:=wordC b || (b==58 || b==61)
def F0 (r:Tx):Prop:=∀ c∈r.head?,tokC c=false
theorem F0.nil:F0 []:=fun c h=>by simp at h
theorem F0.cons {c:UInt8} {r:Tx} (h:tokC c=false):F0 (c::r):=fun d hd=>by
 simp at hd;subst hd;exact h
theorem tok_inj : ∀ {a b r s:Tx},(∀ c∈a,tokC c=true)→(∀ c∈b,tokC c=true)→F0 r→F0 s→a++r=b++s→a=b∧r=s
 | [],[],r,s,_,_,_,_,h=>⟨rfl,by simpa using h⟩
 | [],y::b,r,s,_,hb,hr,_,h=>by
  simp only [List.nil_append,List.cons_append] at h
  have:=hr y (by rw [h];simp)
  rw [hb y (by simp)] at this;cases this
 | x::a,[],r,s,ha,_,_,hs,h=>by
  simp only [List.nil_append,List.cons_append] at h
  have:=hs x (by rw [← h];simp)
  rw [ha x (by simp)] at this;cases this
 | x::a,y::b,r,s,ha,hb,hr,hs,h=>by
  simp only [List.cons_append,List.cons.injEq] at h
  obtain ⟨h1,h2⟩:=tok_inj (fun c hc=>ha c (by simp [hc])) (fun c hc=>hb c (by simp [hc])) hr hs h.2
  exact ⟨by rw [h.1,h1],h2⟩
theorem regA_word {arch:Int} {k:Nat} (ha:archB arch=true) (h:(k:Int)<regsN arch) : ∀ b∈regA arch k,wordC b=true:=by
 have h1 : ∀ n:Fin 15,(regX n.val).all wordC=true:=by decide +kernel
 have h2 : ∀ n:Fin 32,(regT n.val).all wordC=true:=by decide +kernel
 unfold regA regsN at *
 split
 ·rename_i e;rw [if_pos e] at h;exact List.all_eq_true.1 (h1 ⟨k,by omega⟩)
 ·rename_i e;rw [if_neg e] at h;exact List.all_eq_true.1 (h2 ⟨k,by omega⟩)
theorem regA_inj {arch:Int} {k l:Nat} (hk:(k:Int)<regsN arch) (hl:(l:Int)<regsN arch) (h:regA arch k=regA arch l):k=l:=by
 unfold regA regsN at *
 split at h
 ·rename_i e;rw [if_pos e] at hk hl
  have:=regX_inj ⟨k,by omega⟩ ⟨l,by omega⟩ h
  simpa using this
 ·rename_i e;rw [if_neg e] at hk hl
  have:=regT_inj2 ⟨k,by omega⟩ ⟨l,by omega⟩ h
  simpa using this
theorem thText_word {arch:Int} {t:Th} (ha:archB arch=true) (h:thingB arch t=true) : ∀ b∈thText arch t,(wordC b || b==58)=true:=by
 rcases thingB_cases h with ⟨h1,h2,h3⟩|⟨i,k,rfl,hi,hk⟩ <;> unfold thText
 ·rw [if_pos h1]
  intro b hb
  rw [name_word b (name_all h3 b hb)];rfl
 ·rw [if_neg (by simp only;omega)]
  intro b hb
  simp only [List.mem_append,List.mem_singleton,Int.toNat_natCast] at hb
  rcases hb with (hb|rfl)|hb
  ·rw [num_word b (itoa_num _ b hb)];rfl
  ·rfl
  ·rw [regA_word ha hk b hb];rfl
theorem thText_inj {arch:Int} {t u:Th} (ht:thingB arch t=true) (hu:thingB arch u=true) (h:thText arch t=thText arch u):t=u:=by
 have l58 : ∀ {s:Tx},nameB s=true→(58:UInt8)∉s:=fun hs=>no_byte (name_all hs) (by decide)
 have i58 : ∀ n:Int,(58:UInt8)∉Lib.itoa n:=fun n=>no_byte (itoa_num n) (by decide)
 have has : ∀ (i k:Nat),(58:UInt8)∈Lib.itoa (i:Int)++[58]++regA arch k:=fun i k=>by simp
 rcases thingB_cases ht with ⟨h1,h2,h3⟩|⟨i,k,rfl,hi,hk⟩ <;> rcases thingB_cases hu with ⟨g1,g2,g3⟩|⟨j,l,rfl,hj,hl⟩ <;> unfold thText at h
 ·rw [if_pos h1,if_pos g1] at h
  obtain ⟨a,b,c⟩:=t;obtain ⟨a',b',c'⟩:=u
  simp only at h1 h2 g1 g2 h
  rw [h1,h2,g1,g2,h]
 ·rw [if_pos h1,if_neg (by simp only;omega)] at h
  simp only [Int.toNat_natCast] at h
  exact absurd (by rw [h];exact has j l) (l58 h3)
 ·rw [if_neg (by simp only;omega),if_pos g1] at h
  simp only [Int.toNat_natCast] at h
  exact absurd (by rw [← h];exact has i k) (l58 g3)
 ·rw [if_neg (by simp only;omega),if_neg (by simp only;omega)] at h
  simp only [Int.toNat_natCast,List.append_assoc,List.singleton_append] at h
  obtain ⟨e1,e2⟩:=split_at h (i58 _) (i58 _)
  have e3:=itoa_inj e1
  have e4:=regA_inj hk hl e2
  rw [e3,e4]
theorem atomT_inj {arch:Int} {t u:Th} {v z:Int} (ha:archB arch=true) (ht:thingB arch t=true) (hu:thingB arch u=true) (h:atomT arch t v=atomT arch u z):t=u∧v=z:=by
 unfold atomT at h
 simp only [List.append_assoc,List.singleton_append] at h
 obtain ⟨e1,e2⟩:=split_at h (no_byte (thText_word ha ht) (by decide)) (no_byte (thText_word ha hu) (by decide))
 exact ⟨thText_inj ht hu e1,itoa_inj e2⟩
theorem atomT_tok {arch:Int} {t:Th} {v:Int} (ha:archB arch=true) (ht:thingB arch t=true) : ∀ b∈atomT arch t v,tokC b=true:=by
 intro b hb
 unfold atomT at hb
 simp only [List.mem_append,List.mem_singleton] at hb
 unfold tokC
 rcases hb with (hb|rfl)|hb
 ·have:=thText_word ha ht b hb
  rw [Bool.or_eq_true] at this
  rcases this with e|e
  ·rw [e];rfl
  ·rw [e];simp
 ·rfl
 ·rw [num_word b (itoa_num _ b hb)];rfl
theorem atomT_61 (arch:Int) (t:Th) (v:Int):(61:UInt8)∈atomT arch t v:=by unfold atomT;simp
def F2 (r:Tx):Prop:=F0 r∧∀ t,r≠32::47::t
def F1 (r:Tx):Prop:=F0 r∧r.head?≠some 32
theorem F1.two {r:Tx} (h:F1 r):F2 r:=⟨h.1,fun t e=>h.2 (by rw [e];rfl)⟩
theorem F1.nil:F1 []:=⟨F0.nil,by simp⟩
theorem F1.cons {c:UInt8} {r:Tx} (h:tokC c=false) (h2:c≠32):F1 (c::r):=⟨F0.cons h,by simpa using h2⟩
def termT (arch:Int) (x:Nd):Tx:=inB (weak true x.kind) (textN arch x)
def andT (arch:Int) (x:Nd):Tx:=inB (weak false x.kind) (textN arch x)
def TermP (arch:Int) (x:Nd):Prop:=∀ (y:Nd) (r s:Tx),OkN arch y→F0 r→F0 s→termT arch x++r=termT arch y++s→bareN x=bareN y∧r=s
def AndP (arch:Int) (x:Nd):Prop:=∀ (y:Nd) (r s:Tx),OkN arch y→F2 r→F2 s→andT arch x++r=andT arch y++s→bareN x=bareN y∧r=s
def FullP (arch:Int) (x:Nd):Prop:=∀ (y:Nd) (r s:Tx),OkN arch y→F1 r→F1 s→textN arch x++r=textN arch y++s→bareN x=bareN y∧r=s
theorem andR_inj {arch:Int} : ∀ {L M:List Nd} {r s:Tx},(∀ x∈L,TermP arch x)→(∀ y∈M,OkN arch y)→F2 r→F2 s→textR arch true sepA L++r=textR arch true sepA M++s→bareL L=bareL M∧r=s
 | [],[],r,s,_,_,_,_,h=>by rw [textR_nil] at h;exact ⟨rfl,by simpa using h⟩
 | [],y::M,r,s,_,_,hr,_,h=>by
  rw [textR_nil,textR_cons] at h
  exact absurd (by simpa [sepA] using h) (hr.2 _)
 | x::L,[],r,s,_,_,_,hs,h=>by
  rw [textR_nil,textR_cons] at h
  exact absurd (by simpa [sepA] using h.symm) (hs.2 _)
 | x::L,y::M,r,s,hL,hM,hr,hs,h=>by
  rw [textR_cons,textR_cons] at h
  simp only [sepA,List.cons_append,List.nil_append,List.cons.injEq,true_and,List.append_assoc] at h
  have f : ∀ (K:List Nd) (q:Tx),F2 q→F0 (textR arch true sepA K++q):=fun K q hq=>by
   cases K with
   | nil=>rw [textR_nil];exact hq.1
   | cons z K=>rw [textR_cons];simp only [sepA,List.cons_append];exact F0.cons (by decide)
  obtain ⟨e1,e2⟩:=hL x (by simp) y _ _ (hM y (by simp)) (f L r hr) (f M s hs) h
  obtain ⟨e3,e4⟩:=andR_inj (fun z hz=>hL z (by simp [hz])) (fun z hz=>hM z (by simp [hz])) hr hs e2
  exact ⟨by rw [bareL_cons,bareL_cons,e1,e3],e4⟩
theorem orR_inj {arch:Int} : ∀ {L M:List Nd} {r s:Tx},(∀ x∈L,AndP arch x)→(∀ y∈M,OkN arch y)→F1 r→F1 s→textR arch false sepO L++r=textR arch false sepO M++s→bareL L=bareL M∧r=s
 | [],[],r,s,_,_,_,_,h=>by rw [textR_nil] at h;exact ⟨rfl,by simpa using h⟩
 | [],y::M,r,s,_,_,hr,_,h=>by
  rw [textR_nil,textR_cons] at h
  exact absurd (by rw [show r=_ by simpa using h];simp [sepO]) hr.2
 | x::L,[],r,s,_,_,_,hs,h=>by
  rw [textR_nil,textR_cons] at h
  exact absurd (by rw [show s=_ by simpa using h.symm];simp [sepO]) hs.2
 | x::L,y::M,r,s,hL,hM,hr,hs,h=>by
  rw [textR_cons,textR_cons] at h
  simp only [sepO,List.cons_append,List.nil_append,List.cons.injEq,true_and,List.append_assoc] at h
  have f : ∀ (K:List Nd) (q:Tx),F1 q→F2 (textR arch false sepO K++q):=fun K q hq=>by
   cases K with
   | nil=>rw [textR_nil];exact hq.two
   | cons z K=>rw [textR_cons];simp only [sepO,List.cons_append];exact ⟨F0.cons (by decide),fun t e=>by simp at e⟩
  obtain ⟨e1,e2⟩:=hL x (by simp) y _ _ (hM y (by simp)) (f L r hr) (f M s hs) h
  obtain ⟨e3,e4⟩:=orR_inj (fun z hz=>hL z (by simp [hz])) (fun z hz=>hM z (by simp [hz])) hr hs e2
  exact ⟨by rw [bareL_cons,bareL_cons,e1,e3],e4⟩
def andK (x:Nd):List Nd:=if x.kind=4 then x.kids else [x]
def orK (x:Nd):List Nd:=if x.kind=5 then x.kids else [x]
theorem andK_ok {arch:Int} {x:Nd} (h:OkN arch x) : ∀ y∈andK x,OkN arch y:=by
 unfold andK;split
 ·exact h.kid
 ·intro y hy;rcases List.mem_singleton.1 hy with rfl;exact h
theorem orK_ok {arch:Int} {x:Nd} (h:OkN arch x) : ∀ y∈orK x,OkN arch y:=by
 unfold orK;split
 ·exact h.kid
 ·intro y hy;rcases List.mem_singleton.1 hy with rfl;exact h
theorem andK_ne {arch:Int} {x:Nd} (h:OkN arch x) : ∃ z L,andK x=z::L:=by
 unfold andK;split
 ·rename_i e
  rcases mayN_kind h.may with ⟨h1,_⟩|⟨h1,_⟩|⟨h1,_⟩|⟨h1,h2⟩|⟨h1,_⟩
  ·omega
  ·omega
  ·omega
  ·cases hk:x.kids with
   | nil=>rw [hk] at h2;simp at h2
   | cons z L=>exact ⟨z,L,rfl⟩
  ·omega
 ·exact ⟨x,[],rfl⟩
theorem orK_ne {arch:Int} {x:Nd} (h:OkN arch x) : ∃ z L,orK x=z::L:=by
 unfold orK;split
 ·rename_i e
  rcases mayN_kind h.may with ⟨h1,_⟩|⟨h1,_⟩|⟨h1,_⟩|⟨h1,_⟩|⟨h1,h2⟩
  ·omega
  ·omega
  ·omega
  ·omega
  ·cases hk:x.kids with
   | nil=>rw [hk] at h2;simp at h2
   | cons z L=>exact ⟨z,L,rfl⟩
 ·exact ⟨x,[],rfl⟩
theorem andT_eq {arch:Int} {x z:Nd} {L:List Nd} (h:andK x=z::L):andT arch x=termT arch z++textR arch true sepA L:=by
 unfold andK at h
 split at h
 ·rename_i e
  unfold andT
  rw [textN_eq,e,h]
  rw [if_neg (by decide),if_neg (by decide),if_neg (by decide),if_pos rfl,textL_cons]
  rfl
 ·rename_i e
  cases h
  rw [textR_nil,List.append_nil]
  unfold andT termT weak
  simp [e]
theorem fullT_eq {arch:Int} {x z:Nd} {L:List Nd} (h:orK x=z::L):textN arch x=andT arch z++textR arch false sepO L:=by
 unfold orK at h
 split at h
 ·rename_i e
  rw [textN_eq,e,h]
  rw [if_neg (by decide),if_neg (by decide),if_neg (by decide),if_neg (by decide),textL_cons]
  rfl
 ·rename_i e
  cases h
  rw [textR_nil,List.append_nil]
  unfold andT weak inB
  simp [e]
theorem F2.tail {arch:Int} (K:List Nd) {q:Tx} (hq:F2 q):F0 (textR arch true sepA K++q):=by
 cases K with
 | nil=>rw [textR_nil];exact hq.1
 | cons z K=>rw [textR_cons];simp only [sepA,List.cons_append];exact F0.cons (by decide)
theorem F1.tail {arch:Int} (K:List Nd) {q:Tx} (hq:F1 q):F2 (textR arch false sepO K++q):=by
 cases K with
 | nil=>rw [textR_nil];exact hq.two
 | cons z K=>rw [textR_cons];simp only [sepO,List.cons_append];exact ⟨F0.cons (by decide),fun t e=>by simp at e⟩
theorem mayN_plain {arch k v:Int} {t:Th} {n:Nat} (h:mayN arch k t v n=true) (hk:k≠2):t=zTh∧v=0:=by
 unfold mayN at h
 rw [if_neg hk] at h
 simp only [Bool.and_eq_true,decide_eq_true_eq] at h
 exact h.1
theorem bare_kids {arch:Int} {x y:Nd} (hx:OkN arch x) (hy:OkN arch y) (h2:x.kind≠2) (h:x.kind=y.kind) (hk:bareL x.kids=bareL y.kids):bareN x=bareN y:=by
 obtain ⟨a,b⟩:=mayN_plain hx.may h2
 obtain ⟨c,d⟩:=mayN_plain hy.may (by rw [← h];exact h2)
 exact bareN_inj.2 ⟨h,by rw [a,c],by rw [b,d],hk⟩
theorem bareL_one {x y:Nd} (h:bareL [x]=bareL [y]):bareN x=bareN y:=by
 rw [bareL_cons,bareL_cons,bareL_nil] at h;simpa using h
theorem kids4 {arch:Int} {x:Nd} (h:OkN arch x) (hk:x.kind=4∨x.kind=5):2≤x.kids.length:=by
 rcases mayN_kind h.may with ⟨h1,_⟩|⟨h1,_⟩|⟨h1,_⟩|⟨_,h2⟩|⟨_,h2⟩
 ·omega
 ·omega
 ·omega
 ·exact h2
 ·exact h2
theorem and_of {arch:Int} {x:Nd} (hx:OkN arch x) (hk : ∀ z∈andK x,TermP arch z):AndP arch x:=by
 intro y r s hy hr hs h
 obtain ⟨z,L,e⟩:=andK_ne hx
 obtain ⟨u,M,f⟩:=andK_ne hy
 rw [andT_eq e,andT_eq f,List.append_assoc,List.append_assoc] at h
 obtain ⟨e1,e2⟩:=hk z (by rw [e];simp) u _ _ (andK_ok hy u (by rw [f];simp)) (hr.tail L) (hs.tail M) h
 obtain ⟨e3,e4⟩:=andR_inj (fun v hv=>hk v (by rw [e];simp [hv])) (fun v hv=>andK_ok hy v (by rw [f];simp [hv])) hr hs e2
 have hb:bareL (andK x)=bareL (andK y):=by rw [e,f,bareL_cons,bareL_cons,e1,e3]
 refine ⟨?_,e4⟩
 have hl:=congrArg List.length hb
 rw [bareL_length,bareL_length] at hl
 unfold andK at hb hl
 by_cases h4:x.kind=4 <;> by_cases g4:y.kind=4
 ·rw [if_pos h4,if_pos g4] at hb
  exact bare_kids hx hy (by omega) (by omega) hb
 ·rw [if_pos h4,if_neg g4] at hl
  have:=kids4 hx (.inl h4)
  simp at hl;omega
 ·rw [if_neg h4,if_pos g4] at hl
  have:=kids4 hy (.inl g4)
  simp at hl;omega
 ·rw [if_neg h4,if_neg g4] at hb
  exact bareL_one hb
theorem full_of {arch:Int} {x:Nd} (hx:OkN arch x) (hk : ∀ z∈orK x,AndP arch z):FullP arch x:=by
 intro y r s hy hr hs h
 obtain ⟨z,L,e⟩:=orK_ne hx
 obtain ⟨u,M,f⟩:=orK_ne hy
 rw [fullT_eq e,fullT_eq f,List.append_assoc,List.append_assoc] at h
 obtain ⟨e1,e2⟩:=hk z (by rw [e];simp) u _ _ (orK_ok hy u (by rw [f];simp)) (hr.tail L) (hs.tail M) h
 obtain ⟨e3,e4⟩:=orR_inj (fun v hv=>hk v (by rw [e];simp [hv])) (fun v hv=>orK_ok hy v (by rw [f];simp [hv])) hr hs e2
 have hb:bareL (orK x)=bareL (orK y):=by rw [e,f,bareL_cons,bareL_cons,e1,e3]
 refine ⟨?_,e4⟩
 have hl:=congrArg List.length hb
 rw [bareL_length,bareL_length] at hl
 unfold orK at hb hl
 by_cases h4:x.kind=5 <;> by_cases g4:y.kind=5
 ·rw [if_pos h4,if_pos g4] at hb
  exact bare_kids hx hy (by omega) (by omega) hb
 ·rw [if_pos h4,if_neg g4] at hl
  have:=kids4 hx (.inr h4)
  simp at hl;omega
 ·rw [if_neg h4,if_pos g4] at hl
  have:=kids4 hy (.inr g4)
  simp at hl;omega
 ·rw [if_neg h4,if_neg g4] at hb
  exact bareL_one hb
def tru:Tx:=[116,114,117,101]
theorem termT_cases {arch:Int} {x:Nd} (h:OkN arch x):(x.kind=1∧x.kids = []∧termT arch x=tru)∨(x.kind=2∧x.kids = []∧thingB arch x.th=true∧termT arch x=atomT arch x.th x.val)∨(x.kind=3∧∃ k,x.kids = [k]∧termT arch x=126::termT arch k)∨((x.kind=4∨x.kind=5)∧termT arch x=40::(textN arch x++[41])):=by
 rcases mayN_kind h.may with ⟨h1,h2⟩|⟨h1,h2,h3,h4⟩|⟨h1,h2⟩|⟨h1,h2⟩|⟨h1,h2⟩
 ·refine .inl ⟨h1,List.length_eq_zero_iff.1 h2,?_⟩
  unfold termT;rw [h1,textN_eq,h1];rfl
 ·refine .inr (.inl ⟨h1,List.length_eq_zero_iff.1 h4,h2,?_⟩)
  unfold termT;rw [h1,textN_eq,h1];rfl
 ·refine .inr (.inr (.inl ⟨h1,?_⟩))
  obtain ⟨k,hk⟩:=List.length_eq_one_iff.1 h2
  refine ⟨k,hk,?_⟩
  unfold termT
  rw [h1,textN_eq arch x,h1,hk,if_neg (by decide),if_neg (by decide),if_pos rfl,textL_cons,textR_nil,List.append_nil]
  rfl
 ·refine .inr (.inr (.inr ⟨.inl h1,?_⟩))
  unfold termT;rw [h1];rfl
 ·refine .inr (.inr (.inr ⟨.inr h1,?_⟩))
  unfold termT;rw [h1];rfl
theorem tok_head {a r s:Tx} {c:UInt8} (ha : ∀ b∈a,tokC b=true) (hne:a≠[]) (hc:tokC c=false) (h:a++r=c::s):False:=by
 cases a with
 | nil=>exact hne rfl
 | cons x a =>
  simp only [List.cons_append,List.cons.injEq] at h
  rw [← h.1,ha x (by simp)] at hc;cases hc
theorem tru_tok : ∀ b∈tru,tokC b=true:=by decide
theorem atomT_ne (arch:Int) (t:Th) (v:Int):atomT arch t v≠[]:=fun e=>by
 have:=atomT_61 arch t v;rw [e] at this;cases this
theorem bare_leaf {x y:Nd} (a:x.kind=y.kind) (b:x.th=y.th) (c:x.val=y.val) (d:x.kids = []) (e:y.kids = []):bareN x=bareN y:=bareN_inj.2 ⟨a,b,c,by rw [d,e]⟩
theorem term_of {arch:Int} {x:Nd} (ha:archB arch=true) (hx:OkN arch x) (h3 : ∀ k∈x.kids,x.kind=3→TermP arch k) (h4:x.kind=4∨x.kind=5→FullP arch x):TermP arch x:=by
 intro y r s hy hr hs h
 rcases termT_cases hx with ⟨k1,n1,e1⟩|⟨k1,n1,t1,e1⟩|⟨k1,u,n1,e1⟩|⟨k1,e1⟩ <;> rcases termT_cases hy with ⟨k2,n2,e2⟩|⟨k2,n2,t2,e2⟩|⟨k2,v,n2,e2⟩|⟨k2,e2⟩ <;> rw [e1,e2] at h
 ·obtain ⟨-,e⟩:=tok_inj tru_tok tru_tok hr hs h
  exact ⟨bare_kids hx hy (by omega) (by omega) (by rw [n1,n2]),e⟩
 ·obtain ⟨f,-⟩:=tok_inj tru_tok (atomT_tok ha t2) hr hs h
  exact absurd (by rw [f];exact atomT_61 _ _ _) (show (61:UInt8)∉tru by decide)
 ·exact (tok_head (c:=126) tru_tok (by decide) (by decide) (by simpa using h)).elim
 ·exact (tok_head (c:=40) tru_tok (by decide) (by decide) (by simpa using h)).elim
 ·obtain ⟨f,-⟩:=tok_inj (atomT_tok ha t1) tru_tok hr hs h
  exact absurd (by rw [← f];exact atomT_61 _ _ _) (show (61:UInt8)∉tru by decide)
 ·obtain ⟨f,e⟩:=tok_inj (atomT_tok ha t1) (atomT_tok ha t2) hr hs h
  obtain ⟨a,b⟩:=atomT_inj ha t1 t2 f
  exact ⟨bare_leaf (by omega) a b n1 n2,e⟩
 ·exact (tok_head (c:=126) (atomT_tok ha t1) (atomT_ne _ _ _) (by decide) (by simpa using h)).elim
 ·exact (tok_head (c:=40) (atomT_tok ha t1) (atomT_ne _ _ _) (by decide) (by simpa using h)).elim
 ·exact (tok_head (c:=126) tru_tok (by decide) (by decide) (by simpa using h.symm)).elim
 ·exact (tok_head (c:=126) (atomT_tok ha t2) (atomT_ne _ _ _) (by decide) (by simpa using h.symm)).elim
 ·simp only [List.cons_append,List.cons.injEq,true_and] at h
  obtain ⟨a,b⟩:=h3 u (by rw [n1];simp) k1 v r s (hy.kid v (by rw [n2];simp)) hr hs h
  exact ⟨bare_kids hx hy (by omega) (by omega) (by rw [n1,n2,bareL_cons,bareL_cons,a]),b⟩
 ·simp only [List.cons_append,List.cons.injEq] at h
  exact absurd h.1 (by decide)
 ·exact (tok_head (c:=40) tru_tok (by decide) (by decide) (by simpa using h.symm)).elim
 ·exact (tok_head (c:=40) (atomT_tok ha t2) (atomT_ne _ _ _) (by decide) (by simpa using h.symm)).elim
 ·simp only [List.cons_append,List.cons.injEq] at h
  exact absurd h.1 (by decide)
 ·simp only [List.cons_append,List.cons.injEq,true_and,List.append_assoc,List.nil_append] at h
  obtain ⟨a,b⟩:=h4 k1 y (41::r) (41::s) hy (F1.cons (by decide) (by decide)) (F1.cons (by decide) (by decide)) h
  exact ⟨a,by simpa using b⟩
theorem text_inj {arch:Int} (ha:archB arch=true) : ∀ {x:Nd},OkN arch x→TermP arch x∧AndP arch x∧FullP arch x:=by
 intro x
 induction x using Nd.ind with
 | h x ih =>
  intro hx
  have k1 : ∀ z∈x.kids,TermP arch z:=fun z hz=>(ih z hz (hx.kid z hz)).1
  have k2 : ∀ z∈x.kids,AndP arch z:=fun z hz=>(ih z hz (hx.kid z hz)).2.1
  by_cases h5:x.kind=5
  ·have f:FullP arch x:=full_of hx (by unfold orK;rw [if_pos h5];exact k2)
   have t:TermP arch x:=term_of ha hx (fun k hk _=>k1 k hk) (fun _=>f)
   refine ⟨t,and_of hx ?_,f⟩
   unfold andK;rw [if_neg (by omega)]
   intro z hz;rcases List.mem_singleton.1 hz with rfl;exact t
  ·by_cases h4:x.kind=4
   ·have a:AndP arch x:=and_of hx (by unfold andK;rw [if_pos h4];exact k1)
    have f:FullP arch x:=full_of hx (by
     unfold orK;rw [if_neg h5]
     intro z hz;rcases List.mem_singleton.1 hz with rfl;exact a)
    exact ⟨term_of ha hx (fun k hk _=>k1 k hk) (fun _=>f),a,f⟩
   ·have t:TermP arch x:=term_of ha hx (fun k hk _=>k1 k hk) (fun h=>by omega)
    have a:AndP arch x:=and_of hx (by
     unfold andK;rw [if_neg h4]
     intro z hz;rcases List.mem_singleton.1 hz with rfl;exact t)
    exact ⟨t,a,full_of hx (by
     unfold orK;rw [if_neg h5]
     intro z hz;rcases List.mem_singleton.1 hz with rfl;exact a)⟩
theorem textN_inj {arch:Int} {x y:Nd} (ha:archB arch=true) (hx:OkN arch x) (hy:OkN arch y) {r s:Tx} (hr:F1 r) (hs:F1 s) (h:textN arch x++r=textN arch y++s):bareN x=bareN y∧r=s:=(text_inj ha hx).2.2 y r s hy hr hs h
mutual
theorem textN_bare (arch:Int) : ∀ x:Nd,textN arch (bareN x)=textN arch x
 | .mk k t v a c l=>by
  rw [bareN,textN,textN,textL_bare arch true [] l,textL_bare arch true sepA l,textL_bare arch false sepO l]
theorem textL_bare (arch:Int) (and:Bool) (sep:Tx) : ∀ l:List Nd,textL arch and sep (bareL l)=textL arch and sep l
 | []=>by rw [bareL_nil]
 | x::r=>by rw [bareL_cons,textL_cons,textL_cons,textN_bare arch x,textR_bare arch and sep r,bareN_eq x];rfl
theorem textR_bare (arch:Int) (and:Bool) (sep:Tx) : ∀ l:List Nd,textR arch and sep (bareL l)=textR arch and sep l
 | []=>by rw [bareL_nil]
 | x::r=>by rw [bareL_cons,textR_cons,textR_cons,textN_bare arch x,textR_bare arch and sep r,bareN_eq x];rfl
end
theorem rowsE_codes {arch:Int} : ∀ {l:List Cd},rowsE arch l=0→∀ x∈l,∀ i∈x.l,insA arch i=true
 | [],_,x,hx=>absurd hx (by simp)
 | y::r,h,x,hx=>by
  unfold rowsE at h
  by_cases h1:rowE arch y.l=0
  ·rw [if_pos h1] at h
   rcases List.mem_cons.1 hx with rfl|hx
   ·unfold rowE at h1
    by_cases h2:x.l.all (insA arch)=true
    ·exact fun i hi=>List.all_eq_true.1 h2 i hi
    ·rw [if_neg h2] at h1;cases h1
   ·exact rowsE_codes h x hx
  ·rw [if_neg h1] at h;exact absurd h h1
theorem coded_codes {t:Tst} (h:codedE t=0):Codes t:=by
 unfold codedE at h
 by_cases h1:t.code.length<1∨16<t.code.length
 ·rw [if_pos h1] at h;cases h
 rw [if_neg h1] at h
 by_cases h2:(t.code.any fun x=>decide (256<x.l.length))=true
 ·rw [if_pos h2] at h;cases h
 rw [if_neg h2] at h
 exact rowsE_codes h
theorem headC_inj {p q:Int} {x y:Tx} (hp:1≤p∧p≤3) (hq:1≤q∧q≤3) (h:headC p++x=headC q++y):p=q∧x=y:=by
 have h1:p=1∨p=2∨p=3:=by omega
 have h2:q=1∨q=2∨q=3:=by omega
 rcases h1 with rfl|rfl|rfl <;> rcases h2 with rfl|rfl|rfl <;> simp [headC] at h ⊢ <;> exact h
theorem headC_start (q:Int) (s:Tx) : ∃ c t,headC q++s=c::t∧¬ c=32:=by
 unfold headC
 split
 ·exact ⟨_,_,rfl,by decide⟩
 ·split
  ·exact ⟨_,_,rfl,by decide⟩
  ·exact ⟨_,_,rfl,by decide⟩
theorem fileT_parts (t:Tst):fileT t=head0' t.arch++(t.name++10::((if t.cycle = [] then [] else [34]++t.cycle++[34,10])++123::(10::(t.init.flatMap (initT t.arch)++125::(10::(((tableT t).flatMap fun l=>l++[10])++(headC t.q++(textN t.arch t.node++[41,10])))))))):=by
 unfold fileT headT cycT head0' textC
 simp only [List.append_assoc,List.cons_append,List.nil_append]
theorem file_apart (a b:Tst) (ha:(printE a).2=0) (hb:(printE b).2=0):(printE a).1=(printE b).1↔SameT a b:=by
 have ta:=printE_ok ha
 have tb:=printE_ok hb
 have key : ∀ {t:Tst},tstE t=0→(printE t).2=0→(printE t).1=fileT t:=by
  intro t h h2
  unfold printE at h2 ⊢
  rw [if_neg (by simpa using h)] at h2 ⊢
  split at h2
  ·cases h2
  ·rename_i h3;rw [if_neg h3]
 rw [key ta ha,key tb hb]
 obtain ⟨aa,at1,ac,ab,aq,-⟩:=tst_ok ta
 obtain ⟨ba,bt1,bc,bb,bq,-⟩:=tst_ok tb
 rw [Bool.and_eq_true] at at1 bt1
 have shown : ∀ {t:Tst},titleB t.name=true→cycleB t.cycle=true→(10:UInt8)∉t.name∧(34:UInt8)∉t.cycle:=by
  intro t h1 h2
  unfold titleB at h1;unfold cycleB at h2
  simp only [Bool.and_eq_true] at h1 h2
  exact ⟨(show_no h1.2.2 (by decide)).1,(show_no h2.2.1 (by decide)).2⟩
 obtain ⟨an,ay⟩:=shown at1.1 at1.2
 obtain ⟨bn,by'⟩:=shown bt1.1 bt1.2
 obtain ⟨-,q1,q2,oa,-⟩:=cond_ok (askE_ok aq)
 obtain ⟨-,p1,p2,ob,-⟩:=cond_ok (askE_ok bq)
 obtain ⟨ca1,ca2,-⟩:=coded_ok ac
 obtain ⟨cb1,cb2,-⟩:=coded_ok bc
 constructor
 ·intro h
  rw [fileT_parts,fileT_parts] at h
  obtain ⟨e1,h⟩:=head_inj aa ba h
  obtain ⟨e2,h⟩:=split_at h an bn
  obtain ⟨e3,h⟩:=cyc_inj ay by' h
  rw [List.cons.injEq] at h
  have h:=h.2
  rw [← e1] at h
  obtain ⟨e4,h⟩:=inits_inj aa ca2 cb2 (begun_all ab) (by rw [e1];exact begun_all bb) h
  rw [List.cons.injEq] at h
  have h:=h.2
  obtain ⟨e5,h⟩:=table_inj (headC_start _ _) (headC_start _ _) h
  have e6:=table_code aa e1 (coded_codes ac) (coded_codes bc) (fun e=>by rw [e] at ca1;simp at ca1) (fun e=>by rw [e] at cb1;simp at cb1) e5
  obtain ⟨e7,h⟩:=headC_inj ⟨q1,q2⟩ ⟨p1,p2⟩ h
  rw [← e1] at ob
  obtain ⟨e8,-⟩:=textN_inj aa oa ob (F1.cons (by decide) (by decide)) (F1.cons (by decide) (by decide)) h
  exact ⟨e1,e2,e3,by rw [e4],e6,e7,e4,e8⟩
 ·rintro ⟨e1,e2,e3,-,e6,e7,e4,e8⟩
  have et:tableT a=tableT b:=by
   rw [← tableT_bare a,← tableT_bare b]
   have hc:=bareC_eq e6
   unfold bare
   rw [hc,e1]
   rfl
  rw [fileT_parts,fileT_parts,e1,e2,e3,e4,e7,et,← textN_bare b.arch a.node,e8,textN_bare]
end Go.Proofs.YthaibjefnclkjaaGreatDoor
namespace Go.Proofs.YthaibjefnclkjaaGreatDoor
open Go.RowKit Go.Sort
theorem lawFileApart (a b : Tst) (w : World) (h1 : TsIn w a) (_z1 : TsSz a) (h2 : TsIn w b) (_z2 : TsSz b) (g : Gl w) : Calls Tryz.prog 5 #[vT a, vT b] w (Ret w (.bool true)) := by
  have A1 := al w (mkT a)
  have A2 := al (w.alloc (mkT a)) (mkT b)
  have a0 := (BxT.new w a).below A2
  have b0 := BxT.new (w.alloc (mkT a)) b
  rw [alloc_size] at b0
  have HA := hid (A1.trans (A2.mono A1.size))
  have H1 := hid (h1.keep HA.out); have H2 := hid (h2.keep HA.out)
  have HG := hid (g.below HA.out)
  have AW := hid awake13
  have PA := hid (fun (w' : World) (h : TsIn w' a) (g : Gl w') => filePrint a w' h g)
  have PB := hid (fun (w' : World) (h : TsIn w' b) (g : Gl w') => filePrint b w' h g)
  have RA := hid (fun (w' : World) (h : TsIn w' a) (g : Gl w') => r13Print a w' h g)
  have RB := hid (fun (w' : World) (h : TsIn w' b) (g : Gl w') => r13Print b w' h g)
  have OA := hid (printE_ok (t := a)); have OB := hid (printE_ok (t := b))
  have HF := hid (file_apart a b)
  obtain ⟨pa, hpa⟩ : ∃ p, printE a = p := ⟨_, rfl⟩
  obtain ⟨pb, hpb⟩ : ∃ p, printE b = p := ⟨_, rfl⟩
  rw [hpa] at PA RA OA HF
  rw [hpb] at PB RB OB HF
  obtain ⟨s, e1⟩ := pa
  obtain ⟨t, e2⟩ := pb
  dsimp only at PA RA PB RB OA OB HF
  clear h1 h2 A1 A2 g hpa hpb
  go_enter Tryz.func5, Tryz.ntmps5
  go_upto_region 1 with (fail)
  generalize (w.alloc (mkT a)).alloc (mkT b) = W1 at *
  obtain ⟨p0, p1, p2, p3, p4, p5, p6, p7, p8, p9, p10, p11⟩ := a0.cells
  go_wp2_with fail
  refine (PA.out _ H1.out HG.out).mono ?_
  rintro e w2 ⟨rfl, E⟩
  clear p0 p1 p2 p3 p4 p5 p6 p7 p8 p9 p10 p11 PA
  obtain ⟨q0, q1, q2, q3, q4, q5, q6, q7, q8, q9, q10, q11⟩ := (b0.below E).cells
  go_wp2_with fail
  refine (PB.out _ (H2.out.keep E) (HG.out.below E)).mono ?_
  rintro e w3 ⟨rfl, E3⟩
  have E := E.trans (E3.mono E.size)
  clear q0 q1 q2 q3 q4 q5 q6 q7 q8 q9 q10 q11 PB E3
  obtain ⟨p0, p1, p2, p3, p4, p5, p6, p7, p8, p9, p10, p11⟩ := (a0.below E).cells
  by_cases hz : e1 = 0 ∧ e2 = 0
  · obtain ⟨rfl, rfl⟩ := hz
    have hca : cntN a.node ≤ 1024 := by
      obtain ⟨-, -, -, -, k, -⟩ := tst_ok (OA.out rfl)
      exact (cond_ok (askE_ok k)).2.2.2.2
    have hcb : cntN b.node ≤ 1024 := by
      obtain ⟨-, -, -, -, k, -⟩ := tst_ok (OB.out rfl)
      exact (cond_ok (askE_ok k)).2.2.2.2
    have ST := hid (r11SameTest a b w3 (H1.out.keep E) (H2.out.keep E) hca hcb)
    have HF2 := hid (HF.out rfl rfl)
    obtain ⟨bb, hbb⟩ : ∃ bb, ((tx s).toList == (tx t).toList) = bb := ⟨_, rfl⟩
    have HBB := hid (eq_tx _ _ _ hbb)
    obtain ⟨q0, q1, q2, q3, q4, q5, q6, q7, q8, q9, q10, q11⟩ := (b0.below E).cells
    clear hca hcb OA OB HF RA RB
    go_wp2_with fail
    refine ST.out.mono ?_
    rintro e w6 ⟨b', rfl, hb, E6⟩
    have E := E.trans (E6.mono E.size)
    have hbe : bb = b' := by
      rw [Bool.eq_iff_iff, HBB.out, HF2.out, hb]
    have HBE := hid hbe
    clear hb hbe ST E6 HF2 HBB
    have hbe := HBE.out
    subst hbe
    have zb : (bb == bb) = true := by simp
    clear p0 p1 p2 p3 p4 p5 p6 p7 p8 p9 p10 p11 q0 q1 q2 q3 q4 q5 q6 q7 q8 q9 q10 q11
    have AW := hid (AW.out _ (HG.out.below E))
    go_wp2_with fail
    refine AW.out.mono ?_
    rintro e w7 ⟨rfl, E7⟩
    have E := E.trans (E7.mono E.size)
    go_wp2_with fail
    (try go_simp)
    go_ret
    exact ⟨rfl, HA.out.trans (E.mono HA.out.size)⟩
  · have z : ((e1 != 0) = true) ∨ ((e1 != 0) = false ∧ (e2 != 0) = true) := by
      by_cases h1 : e1 = 0
      · exact .inr ⟨by simpa using h1, by simpa using fun h2 => hz ⟨h1, h2⟩⟩
      · exact .inl (by simpa using h1)
    clear hz OA OB HF
    have e11 : (e1 == e1) = true := by simp
    have e22 : (e2 == e2) = true := by simp
    rcases z with z1 | ⟨z1, z2⟩
    all_goals
      go_wp2_with fail
      refine (RA.out _ (H1.out.keep E) (HG.out.below E)).mono ?_
      rintro e w4 ⟨rfl, E4⟩
      have E := E.trans (E4.mono E.size)
      clear p0 p1 p2 p3 p4 p5 p6 p7 p8 p9 p10 p11 RA E4
      obtain ⟨q0, q1, q2, q3, q4, q5, q6, q7, q8, q9, q10, q11⟩ := (b0.below E).cells
      go_wp2_with fail
      refine (RB.out _ (H2.out.keep E) (HG.out.below E)).mono ?_
      rintro e w5 ⟨rfl, E5⟩
      have E := E.trans (E5.mono E.size)
      clear q0 q1 q2 q3 q4 q5 q6 q7 q8 q9 q10 q11 RB E5
      have AW := hid (AW.out _ (HG.out.below E))
      go_wp2_with fail
      refine AW.out.mono ?_
      rintro e w6 ⟨rfl, E6⟩
      have E := E.trans (E6.mono E.size)
      go_wp2_with fail
      (try go_simp)
      go_ret
      exact ⟨rfl, HA.out.trans (E.mono HA.out.size)⟩
end Go.Proofs.YthaibjefnclkjaaGreatDoor
