/- Numerals, names and lines of an initial state have unlike texts. Plain lists; no program, no condition. Lines of an initial state have unlike texts. Plain lists; no condition beyond: the lines may be. All lines of an initial state have unlike texts; cells between bars. Plain lists. A table's lines have unlike texts: cells between bars, blanks behind a cell. Plain lists. What is printed is read as what it was; what is read may be. Plain lists; no condition. A cell's text ends in no blank; instructions have unlike texts. Plain lists. Instructions of the first kind have unlike texts. Plain lists. Cells have unlike texts and end in no blank. Plain lists. Tables of unlike codes are unlike. Plain lists. Tables of unlike codes are unlike: from rows to codes. Plain lists. Tables of unlike codes are unlike: lines up to the condition. Plain lists. -/
import Derived.Test.YthaibjefnclkjaaGreatDoorAp38
set_option linter.unusedVariables false
namespace Go.Proofs.YthaibjefnclkjaaGreatDoor
def valD (l:Tx):Nat:=l.foldl (fun n b=>10 * n+(b.toNat-48)) 0
theorem valD_dec (u:Nat):valD (Lib.decDigits u)=u:=by
 have key : ∀ k:Fin 10,(UInt8.ofNat (48+k.val)).toNat-48=k.val:=by decide
 induction u using Nat.strongRecOn with
 | _ u ih =>
  rw [Lib.decDigits]
  by_cases h:u<10
  ·rw [dif_pos h]
   have:=key ⟨u,h⟩
   simp only at this
   show 10 * 0+_=_
   omega
  ·rw [dif_neg h]
   have h1:=ih (u / 10) (by omega)
   unfold valD at *
   rw [List.foldl_append,h1]
   have:=key ⟨u % 10,Nat.mod_lt _ (by omega)⟩
   show 10 * (u / 10)+_=_
   simp only at this
   omega
theorem dec_digit (u:Nat) : ∀ b∈Lib.decDigits u,48≤b.toNat∧b.toNat≤57:=by
 have key : ∀ k:Fin 10,48≤(UInt8.ofNat (48+k.val)).toNat∧(UInt8.ofNat (48+k.val)).toNat≤57:=by decide
 induction u using Nat.strongRecOn with
 | _ u ih =>
  rw [Lib.decDigits]
  by_cases h:u<10
  ·rw [dif_pos h]
   intro b hb
   rcases List.mem_singleton.1 hb with rfl
   exact key ⟨u,h⟩
  ·rw [dif_neg h]
   intro b hb
   rcases List.mem_append.1 hb with hb|hb
   ·exact ih _ (by omega) b hb
   ·rcases List.mem_singleton.1 hb with rfl
    exact key ⟨u % 10,Nat.mod_lt _ (by omega)⟩
theorem dec_ne (u:Nat):Lib.decDigits u≠[]:=by
 rw [Lib.decDigits]
 split <;> simp
theorem itoa_inj {m n:Int} (h:Lib.itoa m=Lib.itoa n):m=n:=by
 have hd : ∀ u v:Nat,Lib.decDigits u=Lib.decDigits v→u=v:=fun u v e=>by
  rw [← valD_dec u,← valD_dec v,e]
 have hm : ∀ u v:Nat,Lib.decDigits u≠45::Lib.decDigits v:=fun u v e=>by
  have:=dec_digit u 45 (by rw [e];simp)
  have h2:(45:UInt8).toNat=45:=rfl
  omega
 unfold Lib.itoa at h
 by_cases h1:m<0
 ·by_cases h2:n<0
  ·rw [if_pos h1,if_pos h2] at h
   simp only [List.cons.injEq,true_and] at h
   have:=hd _ _ h
   omega
  ·rw [if_pos h1,if_neg h2] at h
   exact absurd h.symm (hm _ _)
 ·by_cases h2:n<0
  ·rw [if_neg h1,if_pos h2] at h
   exact absurd h (hm _ _)
  ·rw [if_neg h1,if_neg h2] at h
   have:=hd _ _ h
   omega
def numC (b:UInt8):Bool:=b==45 || digitC b
theorem itoa_num (n:Int) : ∀ b∈Lib.itoa n,numC b=true:=by
 have key : ∀ u:Nat,∀ b∈Lib.decDigits u,numC b=true:=fun u b hb=>by
  have:=dec_digit u b hb
  unfold numC digitC
  rw [Bool.or_eq_true]
  right
  rw [Bool.and_eq_true]
  exact ⟨decide_eq_true (UInt8.le_iff_toNat_le.2 this.1),decide_eq_true (UInt8.le_iff_toNat_le.2 this.2)⟩
 unfold Lib.itoa
 split
 ·intro b hb
  rcases List.mem_cons.1 hb with rfl|hb
  ·rfl
  ·exact key _ b hb
 ·exact key _
theorem itoa_ne (n:Int):Lib.itoa n≠[]:=by
 unfold Lib.itoa
 split
 ·simp
 ·exact dec_ne _
theorem regX_inj : ∀ m n:Fin 15,regX m.val=regX n.val→m=n:=by decide +kernel
theorem regT_inj2 : ∀ m n:Fin 32,regT m.val=regT n.val→m=n:=by decide +kernel
theorem regK_inj {arch:Int} {k l:Nat} (hk:regK arch k) (hl:regK arch l) (h:regT' arch k=regT' arch l):k=l:=by
 unfold regT' at h
 rcases hk with ⟨h1,h2⟩|⟨h1,h2⟩ <;> rcases hl with ⟨h3,h4⟩|⟨h3,h4⟩
 ·rw [if_neg (by omega),if_neg (by omega),rX_nat,rX_nat] at h
  have:=regX_inj ⟨k,h2⟩ ⟨l,h4⟩ h
  simpa using this
 ·omega
 ·omega
 ·rw [if_pos h1,if_pos h1] at h
  unfold rT at h
  rw [Int.toNat_natCast,Int.toNat_natCast] at h
  have:=regT_inj2 ⟨k,h2⟩ ⟨l,h4⟩ h
  simpa using this
theorem name_all {s:Tx} (h:nameB s=true) : ∀ b∈s,nameC b=true:=by
 cases s with
 | nil=>simp
 | cons c r =>
  unfold nameB at h
  simp only [Bool.and_eq_true,decide_eq_true_eq] at h
  intro b hb
  rcases List.mem_cons.1 hb with rfl|hb
  ·unfold nameC;rw [h.1.2];rfl
  ·exact List.all_eq_true.1 h.2 b hb
theorem name_first {s:Tx} (h:nameB s=true) : ∃ c r,s=c::r∧letterC c=true:=by
 cases s with
 | nil=>cases h
 | cons c r =>
  unfold nameB at h
  simp only [Bool.and_eq_true,decide_eq_true_eq] at h
  exact ⟨c,r,rfl,h.1.2⟩
theorem letter_num (c:UInt8) (h:letterC c=true):numC c=false:=by
 have:=u8_all (p:=fun c=>!letterC c || !numC c) (by decide +kernel) c
 rw [h] at this
 simpa using this
theorem name_itoa {s:Tx} {n:Int} (h:nameB s=true):s≠Lib.itoa n:=fun e=>by
 obtain ⟨c,r,rfl,hc⟩:=name_first h
 have:=itoa_num n c (by rw [← e];simp)
 rw [letter_num c hc] at this
 cases this
theorem no_byte {p:UInt8→Bool} {s:Tx} {c:UInt8} (h : ∀ b∈s,p b=true) (hc:p c=false):c∉s:=fun m=>by
 have:=h c m
 rw [hc] at this;cases this
def wordC (b:UInt8):Bool:=nameC b || b==45
theorem regT'_word {arch:Int} {k:Nat} (h:regK arch k) : ∀ b∈regT' arch k,wordC b=true:=by
 have h1 : ∀ n:Fin 15,(regX n.val).all wordC=true:=by decide +kernel
 have h2 : ∀ n:Fin 32,(regT n.val).all wordC=true:=by decide +kernel
 unfold regT'
 rcases h with ⟨ha,hk⟩|⟨ha,hk⟩
 ·rw [if_neg (by omega),rX_nat]
  exact List.all_eq_true.1 (h1 ⟨k,hk⟩)
 ·rw [if_pos ha]
  unfold rT
  rw [Int.toNat_natCast]
  exact List.all_eq_true.1 (h2 ⟨k,hk⟩)
theorem num_word (b:UInt8) (h:numC b=true):wordC b=true:=by
 have:=u8_all (p:=fun c=>!numC c || wordC c) (by decide +kernel) b
 rw [h] at this
 simpa using this
theorem name_word (b:UInt8) (h:nameC b=true):wordC b=true:=by unfold wordC;rw [h];rfl
theorem thing_word {arch:Int} {i k:Nat} (hk:regK arch k) : ∀ b∈Lib.itoa (i:Int)++[58]++regT' arch k,(wordC b || b==58)=true:=by
 intro b hb
 rcases List.mem_append.1 hb with hb|hb
 ·rcases List.mem_append.1 hb with hb|hb
  ·rw [num_word b (itoa_num _ b hb)];rfl
  ·rcases List.mem_singleton.1 hb with rfl;rfl
 ·rw [regT'_word hk b hb];rfl
theorem init_inj {arch:Int} {n m:Nat} {x y:Ini} (ha:archB arch=true) (hn:n≤16) (hm:m≤16) (hx:firstB arch n x=true) (hy:firstB arch m y=true) (h:initT arch x=initT arch y):x=y:=by
 have w61 : ∀ {i k:Nat},regK arch k→(61:UInt8)∉Lib.itoa (i:Int)++[58]++regT' arch k:=fun hk=>no_byte (thing_word hk) (by decide)
 have l61 : ∀ {s:Tx},nameB s=true→(61:UInt8)∉s:=fun hs=>no_byte (name_all hs) (by decide)
 have l58 : ∀ {s:Tx},nameB s=true→(58:UInt8)∉s:=fun hs=>no_byte (name_all hs) (by decide)
 have i58 : ∀ n:Int,(58:UInt8)∉Lib.itoa n:=fun n=>no_byte (itoa_num n) (by decide)
 have sp : ∀ {P V P' V':Tx},P++[61]++V++[59,10]=P'++[61]++V'++[59,10]→(61:UInt8)∉P→(61:UInt8)∉P'→P=P'∧V=V':=fun {P V P' V'} e h1 h2=>by
  simp only [List.append_assoc,List.singleton_append] at e
  obtain ⟨e1,e2⟩:=split_at e h1 h2
  exact ⟨e1,List.append_cancel_right e2⟩
 have has : ∀ (i k:Nat),(58:UInt8)∈Lib.itoa (i:Int)++[58]++regT' arch k:=fun i k=>by simp
 rcases firstB_cases ha hn hx with ⟨loc,nn,rfl,h1,h2⟩|⟨i,k,v,nn,rfl,h1,-,h2,h3⟩ <;>
 rcases firstB_cases ha hm hy with ⟨loc',nn',rfl,h1',h2'⟩|⟨i',k',v',nn',rfl,h1',-,h2',h3'⟩ <;>
 unfold initT at h
 ·simp only [if_true] at h
  obtain ⟨e1,e2⟩:=sp h (l61 h1) (l61 h1')
  rw [e1,itoa_inj e2]
 ·simp only [if_true,if_neg (show ¬ ((i':Int) = -1) by omega)] at h
  obtain ⟨e1,e2⟩:=sp h (l61 h1) (w61 h2')
  exact absurd (by rw [e1];exact has i' k') (l58 h1)
 ·simp only [if_true,if_neg (show ¬ ((i:Int) = -1) by omega)] at h
  obtain ⟨e1,e2⟩:=sp h (w61 h2) (l61 h1')
  exact absurd (by rw [← e1];exact has i k) (l58 h1')
 ·simp only [if_neg (show ¬ ((i:Int) = -1) by omega),if_neg (show ¬ ((i':Int) = -1) by omega)] at h
  obtain ⟨e1,e2⟩:=sp h (w61 h2) (w61 h2')
  simp only [List.append_assoc,List.singleton_append] at e1
  obtain ⟨e3,e4⟩:=split_at e1 (i58 _) (i58 _)
  have e5:=itoa_inj e3
  have e6:=regK_inj h2 h2' e4
  rcases h3 with ⟨a1,a2,a3⟩|⟨a1,a2⟩ <;> rcases h3' with ⟨b1,b2,b3⟩|⟨b1,b2⟩
  ·rw [if_neg a1,if_neg b1] at e2
   rw [e5,e6,e2,a3,b3]
  ·rw [if_neg a1,if_pos b1] at e2
   exact absurd e2 (name_itoa a2)
  ·rw [if_pos a1,if_neg b1] at e2
   exact absurd e2.symm (name_itoa b2)
  ·rw [if_pos a1,if_pos b1] at e2
   rw [e5,e6,a1,b1,itoa_inj e2]
def initL (arch:Int) (x:Ini):Tx:=(if x.thread = -1 then x.loc else Lib.itoa x.thread++[58]++regT' arch x.reg)++[61]++(if x.vloc = [] then Lib.itoa x.n else x.vloc)++[59]
theorem initT_L (arch:Int) (x:Ini):initT arch x=initL arch x++[10]:=by
 unfold initT initL
 simp only [List.append_assoc,List.cons_append,List.nil_append]
theorem initL_word {arch:Int} {n:Nat} {x:Ini} (ha:archB arch=true) (hn:n≤16) (hx:firstB arch n x=true):(10:UInt8)∉initL arch x∧∃ c t,initL arch x=c::t∧c≠125:=by
 have pw : ∀ b,wordC b=true→(wordC b || (b==58 || (b==61 || b==59)))=true:=fun b h=>by rw [h];rfl
 have key : ∀ b∈initL arch x,(wordC b || (b==58 || (b==61 || b==59)))=true:=by
  rcases firstB_cases ha hn hx with ⟨loc,nn,rfl,h1,h2⟩|⟨i,k,v,nn,rfl,h1,-,h2,h3⟩ <;> unfold initL <;> intro b hb
  ·simp only [if_true] at hb
   simp only [List.mem_append,List.mem_singleton] at hb
   rcases hb with ((hb|rfl)|hb)|rfl
   ·exact pw b (name_word b (name_all h1 b hb))
   ·rfl
   ·exact pw b (num_word b (itoa_num _ b hb))
   ·rfl
  ·simp only [if_neg (show ¬ ((i:Int) = -1) by omega)] at hb
   simp only [List.mem_append,List.mem_singleton] at hb
   rcases hb with ((((hb|rfl)|hb)|rfl)|hb)|rfl
   ·exact pw b (num_word b (itoa_num _ b hb))
   ·rfl
   ·exact pw b (regT'_word h2 b hb)
   ·rfl
   ·rcases h3 with ⟨a1,a2,a3⟩|⟨a1,a2⟩
    ·rw [if_neg a1] at hb
     exact pw b (name_word b (name_all a2 b hb))
    ·rw [if_pos a1] at hb
     exact pw b (num_word b (itoa_num _ b hb))
   ·rfl
 refine ⟨no_byte key (by decide),?_⟩
 cases e:initL arch x with
 | nil=>unfold initL at e;simp at e
 | cons c t=>exact ⟨c,t,rfl,fun h=>by have:=key c (by rw [e];simp);rw [h] at this;exact absurd this (by decide)⟩
theorem initL_inj {arch:Int} {n m:Nat} {x y:Ini} (ha:archB arch=true) (hn:n≤16) (hm:m≤16) (hx:firstB arch n x=true) (hy:firstB arch m y=true) (h:initL arch x=initL arch y):x=y :=
 init_inj ha hn hm hx hy (by rw [initT_L,initT_L,h])
theorem map_inj_on {α β:Type} {f:α→β} : ∀ {L M:List α},(∀ x∈L,∀ y∈M,f x=f y→x=y)→L.map f=M.map f→L=M
 | [],[],_,_=>rfl
 | [],_::_,_,h=>by simp at h
 | _::_,[],_,h=>by simp at h
 | x::L,y::M,hf,h=>by
  simp only [List.map_cons,List.cons.injEq] at h
  rw [hf x (by simp) y (by simp) h.1,map_inj_on (fun a ha b hb=>hf a (by simp [ha]) b (by simp [hb])) h.2]
theorem inits_inj {arch:Int} {n m:Nat} {L M:List Ini} {r s:Tx} (ha:archB arch=true) (hn:n≤16) (hm:m≤16) (hL : ∀ x∈L,firstB arch n x=true) (hM : ∀ x∈M,firstB arch m x=true)
  (h:L.flatMap (initT arch)++125::r=M.flatMap (initT arch)++125::s):L=M∧r=s:=by
 have e : ∀ L:List Ini,L.flatMap (initT arch)=(L.map (initL arch)).flatMap fun l=>l++[10]:=fun L=>by
  rw [List.flatMap_map]
  congr 1
  funext x
  exact initT_L arch x
 rw [e,e] at h
 obtain ⟨h1,h2⟩:=lines_inj (p:=fun c=>c≠125)
  (fun l hl=>by obtain ⟨x,hx,rfl⟩:=List.mem_map.1 hl;exact initL_word ha hn (hL x hx))
  (fun l hl=>by obtain ⟨x,hx,rfl⟩:=List.mem_map.1 hl;exact initL_word ha hm (hM x hx))
  ⟨125,r,rfl,by simp⟩ ⟨125,s,rfl,by simp⟩ h
 refine ⟨map_inj_on (fun x hx y hy e=>initL_inj ha hn hm (hL x hx) (hM y hy) e) h1,?_⟩
 simpa using h2
theorem cell_no {s:Tx} (h:CellB s):(124:UInt8)∉s∧(10:UInt8)∉s∧(59:UInt8)∉s :=
 ⟨no_byte h (by decide),no_byte h (by decide),no_byte h (by decide)⟩
theorem bar_no (s:Tx) (h:CellB s):(124:UInt8)∉s++[32]:=by
 intro m
 rcases List.mem_append.1 m with m|m
 ·exact (cell_no h).1 m
 ·simp at m
theorem barT_inj : ∀ {l m:List Tx},l≠[]→m≠[]→(∀ s∈l,CellB s)→(∀ s∈m,CellB s)→barT l=barT m→l=m
 | [],_,h,_,_,_,_=>absurd rfl h
 | _,[],_,h,_,_,_=>absurd rfl h
 | [x],[y],_,_,_,_,h=>by rw [barT_one,barT_one] at h;rw [h]
 | [x],y::z::r,_,_,hl,hm,h=>by
  rw [barT_one,barT_two] at h
  exact absurd (by rw [h];simp) (cell_no (hl x (by simp))).1
 | x::z::r,[y],_,_,hl,hm,h=>by
  rw [barT_one,barT_two] at h
  exact absurd (by rw [← h];simp) (cell_no (hm y (by simp))).1
 | x::z::r,y::u::q,_,_,hl,hm,h=>by
  rw [barT_two,barT_two] at h
  have h2:(x++[32])++124::(32::barT (z::r))=(y++[32])++124::(32::barT (u::q)):=by
   simpa using h
  obtain ⟨e1,e2⟩:=split_at h2 (bar_no x (hl x (by simp))) (bar_no y (hm y (by simp)))
  have e3:=List.append_cancel_right e1
  simp only [List.cons.injEq,true_and] at e2
  have:=barT_inj (by simp) (by simp) (fun s hs=>hl s (by simp at hs ⊢;exact .inr hs)) (fun s hs=>hm s (by simp at hs ⊢;exact .inr hs)) e2
  rw [e3,this]
theorem blank_inj : ∀ {k l:Nat} {a b:Tx},(a = []∨a.getLast?≠some 32)→(b = []∨b.getLast?≠some 32)→a++List.replicate k 32=b++List.replicate l 32→a=b
 | 0,0,a,b,_,_,h=>by simpa using h
 | k+1,l+1,a,b,ha,hb,h=>by
  rw [List.replicate_succ',List.replicate_succ',← List.append_assoc,← List.append_assoc] at h
  exact blank_inj ha hb (List.append_cancel_right h)
 | 0,l+1,a,b,ha,hb,h=>by
  rw [List.replicate_succ',← List.append_assoc] at h
  simp only [List.replicate_zero,List.append_nil] at h
  rcases ha with rfl|ha
  ·simp at h
  ·exact absurd (by rw [h];simp) ha
 | k+1,0,a,b,ha,hb,h=>by
  rw [List.replicate_succ',← List.append_assoc] at h
  simp only [List.replicate_zero,List.append_nil] at h
  rcases hb with rfl|hb
  ·simp at h
  ·exact absurd (by rw [← h];simp) hb
theorem padT_inj {m n:Nat} {a b:Tx} (ha:a = []∨a.getLast?≠some 32) (hb:b = []∨b.getLast?≠some 32) (h:padT m a=padT n b):a=b:=blank_inj ha hb h
theorem lineT_row {i:Nat} {a b:Tst} (ha:a.code≠[]) (hb:b.code≠[]) (h:lineT i a=lineT i b):rowT i a=rowT i b:=by
 rw [lineT_eq,lineT_eq] at h
 have h1:=List.append_cancel_right h
 simp only [List.singleton_append,List.cons.injEq,true_and] at h1
 refine barT_inj ?_ ?_ (rowT_cell i a) (rowT_cell i b) h1
 ·intro e;have:=rowT_length i a;rw [e] at this;exact ha (List.length_eq_zero_iff.1 this.symm)
 ·intro e;have:=rowT_length i b;rw [e] at this;exact hb (List.length_eq_zero_iff.1 this.symm)
theorem tso_ne (O:Tx) (h:O.length≤5) : ∀ t,O++32::t≠[102,101,110,99,101,46,116,115,111]:=by
 intro t e
 have h1:(O++32::t)[O.length]? = some 32:=by simp
 rw [e] at h1
 have h2 : ∀ k,k≤5→([102,101,110,99,101,46,116,115,111]:Tx)[k]?≠some 32:=by decide
 exact h2 _ h h1
theorem last_y (n:Nat):([48,40]++regT n++[41]:Tx).getLast? = some 41:=List.getLast?_concat
theorem regT_no44 {n:Nat} (h:n<32):(44:UInt8)∉([48,40]++regT n++[41]:Tx):=by
 have:=(cl_regT h).comma
 simp only [List.mem_append,not_or]
 exact ⟨⟨by decide,this⟩,by decide⟩
theorem parse_mem (O:Tx) (d a:Nat) (hd:d<32) (ha:a<32) (hO:O≠[]∧∀ c∈O,blankC c=false) (hl:O.length≤5) :
  parseI (O++32::(regT d++44::([48,40]++regT a++[41])))=readI O [regT d,[48,40]++regT a++[41]]:=by
 have h1:=regT_len hd;have h2:=regT_len ha
 have hlast:(regT d++44::([48,40]++regT a++[41])).getLast? = some 41:=by
  rw [List.getLast?_append,List.getLast?_cons,last_y];rfl
 rw [parse_op O _ hO (by simp) (by intro c hc;rw [hlast] at hc;cases hc;decide) (by simp;omega) (tso_ne O hl _),split2 (cl_regT hd) (regT_no44 ha)]
 rw [trimT_clean (l:=[48,40]++regT a++[41]) (by intro c hc;simp at hc;subst hc;decide) (by intro c hc;rw [last_y] at hc;cases hc;decide)]
theorem rT_nat (n:Nat):rT (n:Int)=regT n:=by unfold rT;simp
theorem parse_lw {d a:Nat} (hd:d<32) (ha:a<32):parseI (printI ⟨6,d,a,0,0,[],[],0⟩)=some ⟨6,d,a,0,0,[],[],0⟩:=by
 have e:printI ⟨6,d,a,0,0,[],[],0⟩ = [108,119]++32::(regT d++44::([48,40]++regT a++[41])):=by
  unfold printI;simp only [rT_nat];rw [if_pos trivial];simp
 rw [e,parse_mem [108,119] d a hd ha (by decide) (by decide),read_lw2,regOf_regT hd,addr_regT ha]
theorem parse_sw {b a:Nat} (hd:b<32) (ha:a<32):parseI (printI ⟨7,0,a,b,0,[],[],0⟩)=some ⟨7,0,a,b,0,[],[],0⟩:=by
 have e:printI ⟨7,0,a,b,0,[],[],0⟩ = [115,119]++32::(regT b++44::([48,40]++regT a++[41])):=by
  unfold printI;simp only [rT_nat];rw [if_neg (by decide),if_pos trivial];simp
 rw [e,parse_mem [115,119] b a hd ha (by decide) (by decide),read_sw2,regOf_regT hd,addr_regT ha]
theorem parse_ori {d a:Nat} {n:Int} (hd:d<32) (ha:a<32) (h1 : -2048≤n) (h2:n≤2047):parseI (printI ⟨8,d,a,0,n,[],[],0⟩)=some ⟨8,d,a,0,n,[],[],0⟩:=by
 have e:printI ⟨8,d,a,0,n,[],[],0⟩ = [111,114,105]++32::(regT d++44::(regT a++44::decI n)):=by
  unfold printI;simp only [rT_nat];rw [if_neg (by decide),if_neg (by decide),if_pos trivial];simp
 have l1:=regT_len hd;have l2:=regT_len ha;have l3:=decI_len n
 rw [e,parse3 [111,114,105] _ _ _ (by decide) (cl_regT hd) (cl_regT ha) (cl_decI h1 h2) (by simp;omega) (tso_ne _ (by decide)),read_3 _ _ _ (by decide) (by decide) (by decide),regOf_regT hd,regOf_regT ha]
 simp only
 rw [if_neg (by decide),if_pos trivial,numT_decI h1 h2]
theorem parse_xor {d a b:Nat} (hd:d<32) (ha:a<32) (hb:b<32):parseI (printI ⟨9,d,a,b,0,[],[],0⟩)=some ⟨9,d,a,b,0,[],[],0⟩:=by
 have e:printI ⟨9,d,a,b,0,[],[],0⟩ = [120,111,114]++32::(regT d++44::(regT a++44::regT b)):=by
  unfold printI;simp only [rT_nat];rw [if_neg (by decide),if_neg (by decide),if_neg (by decide),if_pos trivial];simp
 have l1:=regT_len hd;have l2:=regT_len ha;have l3:=regT_len hb
 rw [e,parse3 [120,111,114] _ _ _ (by decide) (cl_regT hd) (cl_regT ha) (cl_regT hb) (by simp;omega) (tso_ne _ (by decide)),read_3 _ _ _ (by decide) (by decide) (by decide),regOf_regT hd,regOf_regT ha]
 simp only
 rw [if_neg (by decide),if_neg (by decide),regOf_regT hb]
 simp only
 rw [if_pos trivial]
theorem parse_add {d a b:Nat} (hd:d<32) (ha:a<32) (hb:b<32):parseI (printI ⟨10,d,a,b,0,[],[],0⟩)=some ⟨10,d,a,b,0,[],[],0⟩:=by
 have e:printI ⟨10,d,a,b,0,[],[],0⟩ = [97,100,100]++32::(regT d++44::(regT a++44::regT b)):=by
  unfold printI;simp only [rT_nat];rw [if_neg (by decide),if_neg (by decide),if_neg (by decide),if_neg (by decide),if_pos trivial];simp
 have l1:=regT_len hd;have l2:=regT_len ha;have l3:=regT_len hb
 rw [e,parse3 [97,100,100] _ _ _ (by decide) (cl_regT hd) (cl_regT ha) (cl_regT hb) (by simp;omega) (tso_ne _ (by decide)),read_3 _ _ _ (by decide) (by decide) (by decide),regOf_regT hd,regOf_regT ha]
 simp only
 rw [if_neg (by decide),if_neg (by decide),regOf_regT hb]
 simp only
 rw [if_neg (by decide),if_pos trivial]
theorem parse_bne {a b:Nat} {l:Tx} (ha:a<32) (hb:b<32) (hl:nameB l=true):parseI (printI ⟨11,0,a,b,0,[],l,0⟩)=some ⟨11,0,a,b,0,[],l,0⟩:=by
 have e:printI ⟨11,0,a,b,0,[],l,0⟩ = [98,110,101]++32::(regT a++44::(regT b++44::l)):=by
  unfold printI;simp only [rT_nat];rw [if_neg (by decide),if_neg (by decide),if_neg (by decide),if_neg (by decide),if_neg (by decide),if_pos trivial];simp
 have l1:=regT_len ha;have l2:=regT_len hb
 obtain ⟨hcl,l3⟩:=nameB_cl hl
 rw [e,parse3 [98,110,101] _ _ _ (by decide) (cl_regT ha) (cl_regT hb) hcl (by simp;omega) (tso_ne _ (by decide)),read_3 _ _ _ (by decide) (by decide) (by decide),regOf_regT ha,regOf_regT hb]
 simp only
 rw [if_pos trivial,if_pos hl]
theorem parse_label {l:Tx} (hl:nameB l=true):parseI (printI ⟨12,0,0,0,0,[],l,0⟩)=some ⟨12,0,0,0,0,[],l,0⟩:=by
 obtain ⟨hcl,hlen⟩:=nameB_cl hl
 have e:printI ⟨12,0,0,0,0,[],l,0⟩=l++[58]:=by
  unfold printI;simp
 have ht:trimT (l++[58])=l++[58]:=by
  refine trimT_clean (fun c hc=>?_) (fun c hc=>by simp at hc;subst hc;decide)
  obtain ⟨x,r,rfl⟩ : ∃ x r,l=x::r:=by cases l with
   | nil=>exact absurd rfl hcl.1
   | cons x r=>exact ⟨x,r,rfl⟩
  exact hcl.head c (by simpa using hc)
 rw [e]
 unfold parseI
 rw [if_neg (by simp;omega)]
 simp only [ht]
 rw [if_neg (by
  intro h
  have:(l++[58]).getLast? = some 58:=by simp
  rw [h] at this;cases this),if_pos (by simp),List.dropLast_concat,hcl.trim,if_pos hl]
theorem parse_fence_fin : ∀ k:Fin 10,parseI (printI ⟨13,0,0,0,0,[],[],(k.val:Int)+2⟩)=some ⟨13,0,0,0,0,[],[],(k.val:Int)+2⟩:=by decide +kernel
theorem parse_print (i:Ins) (h:checkI i=true):parseI (printI i)=some i:=by
 obtain ⟨ho,hw,hd,ha,hb⟩:=checkI_spec h
 obtain ⟨op,d,a,b,imm,loc,label,fence⟩:=i
 unfold wantI at hw
 unfold okI at ho
 simp only at ho hw hd ha hb
 obtain ⟨nd,hnd,rfl⟩:=regB_nat hd
 obtain ⟨na,hna,rfl⟩:=regB_nat ha
 obtain ⟨nb,hnb,rfl⟩:=regB_nat hb
 by_cases h6:op=6
 ·subst h6;simp at hw
  obtain ⟨hz,rfl,rfl,rfl,rfl⟩:=hw
  rw [show (nb:Int)=0 by omega];exact parse_lw hnd hna
 by_cases h7:op=7
 ·subst h7;simp at hw
  obtain ⟨hz,rfl,rfl,rfl,rfl⟩:=hw
  rw [show (nd:Int)=0 by omega];exact parse_sw hnb hna
 by_cases h8:op=8
 ·subst h8;simp at hw ho
  obtain ⟨hz,rfl,rfl,rfl⟩:=hw
  rw [show (nb:Int)=0 by omega];exact parse_ori hnd hna ho.1 ho.2
 by_cases h9:op=9
 ·subst h9;simp at hw
  obtain ⟨rfl,rfl,rfl,rfl⟩:=hw
  exact parse_xor hnd hna hnb
 by_cases h10:op=10
 ·subst h10;simp at hw
  obtain ⟨rfl,rfl,rfl,rfl⟩:=hw
  exact parse_add hnd hna hnb
 by_cases h11:op=11
 ·subst h11;simp at hw ho
  obtain ⟨hz,rfl,rfl,rfl⟩:=hw
  rw [show (nd:Int)=0 by omega];exact parse_bne hna hnb ho
 by_cases h12:op=12
 ·subst h12;simp at hw ho
  obtain ⟨hz,hz2,hz3,rfl,rfl,rfl⟩:=hw
  rw [show (nd:Int)=0 by omega,show (na:Int)=0 by omega,show (nb:Int)=0 by omega];exact parse_label ho
 by_cases h13:op=13
 ·subst h13;simp at hw ho
  obtain ⟨hz,hz2,hz3,rfl,rfl,rfl⟩:=hw
  rw [show (nd:Int)=0 by omega,show (na:Int)=0 by omega,show (nb:Int)=0 by omega]
  have:=parse_fence_fin ⟨(fence-2).toNat,by omega⟩
  simp only at this
  rwa [show (((fence-2).toNat:Nat):Int)+2=fence by omega] at this
 exfalso
 rw [if_neg h8,if_neg (by omega),if_neg h13] at ho
 simp at ho
 omega
def Lst (s:Tx):Prop:=∃ p c,s=p++[c]∧c≠32
theorem Lst.app (a:Tx) {b:Tx} (h:Lst b):Lst (a++b):=by
 obtain ⟨p,c,rfl,hc⟩:=h
 exact ⟨a++p,c,by simp,hc⟩
theorem Lst.one (a:Tx) {c:UInt8} (h:c≠32):Lst (a++[c]):=⟨a,c,rfl,h⟩
theorem Lst.of {p:UInt8→Bool} {s:Tx} (h0:s≠[]) (h : ∀ b∈s,p b=true) (hp:p 32=false):Lst s:=by
 refine ⟨s.dropLast,s.getLast h0,(List.dropLast_concat_getLast h0).symm,fun e=>?_⟩
 have:=h _ (List.getLast_mem h0)
 rw [e,hp] at this;cases this
theorem Lst.ok {s:Tx} (h:Lst s):s = []∨s.getLast?≠some 32:=by
 obtain ⟨p,c,rfl,hc⟩:=h
 right;simpa using hc
theorem Lst.ne {s:Tx} (h:Lst s):s≠[]:=by
 obtain ⟨p,c,rfl,hc⟩:=h
 simp
theorem name_lst {s:Tx} (h:nameB s=true):Lst s:=by
 obtain ⟨c,r,e,-⟩:=name_first h
 exact Lst.of (by rw [e];simp) (name_all h) (by decide)
theorem itoa_lst (n:Int):Lst (Lib.itoa n):=Lst.of (itoa_ne n) (itoa_num n) (by decide)
theorem decN_lst (n:Nat):Lst (decN n):=by
 have d : ∀ n a,Lst (a++[dgt n]):=fun n a=>Lst.one a (by
  have key : ∀ k:Fin 10,(UInt8.ofNat (48+k.val))≠32:=by decide
  exact key ⟨n % 10,Nat.mod_lt _ (by omega)⟩)
 unfold decN
 split
 ·exact d _ []
 ·split
  ·exact d _ [_]
  ·split
   ·exact d _ [_,_]
   ·exact d _ [_,_,_]
theorem decI_lst (n:Int):Lst (decI n):=by
 unfold decI
 split
 ·exact (decN_lst _).app [45]
 ·exact decN_lst _
theorem rT_lst (n:Int):Lst (rT n):=(decN_lst _).app [_]
theorem regX_lst {n:Nat} (h:n<15):Lst (regX n):=by
 have k : ∀ n:Fin 15,(regX n.val).all wordC=true:=by decide +kernel
 exact Lst.of (regX_len_fin ⟨n,h⟩).2 (List.all_eq_true.1 (k ⟨n,h⟩)) (by decide)
theorem fpart_lst (n:Int):Lst (fpart n):=by
 unfold fpart
 split
 ·exact ⟨[],114,rfl,by decide⟩
 ·split
  ·exact ⟨[],119,rfl,by decide⟩
  ·exact ⟨[114],119,rfl,by decide⟩
theorem printI_lst {i:Ins} (h:checkI i=true):Lst (printI i):=by
 unfold checkI at h
 simp only [Bool.and_eq_true] at h
 obtain ⟨⟨⟨⟨ho,-⟩,hd⟩,ha⟩,hb⟩:=h
 have hl:i.op=11∨i.op=12→Lst i.label:=fun e=>by
  unfold okI at ho
  rw [if_neg (by omega),if_pos e] at ho
  exact name_lst ho
 unfold printI
 by_cases e1:i.op=6
 ·rw [if_pos e1];exact Lst.one _ (by decide)
 rw [if_neg e1]
 by_cases e2:i.op=7
 ·rw [if_pos e2];exact Lst.one _ (by decide)
 rw [if_neg e2]
 by_cases e3:i.op=8
 ·rw [if_pos e3];exact (decI_lst _).app _
 rw [if_neg e3]
 by_cases e4:i.op=9
 ·rw [if_pos e4];exact (rT_lst _).app _
 rw [if_neg e4]
 by_cases e5:i.op=10
 ·rw [if_pos e5];exact (rT_lst _).app _
 rw [if_neg e5]
 by_cases e6:i.op=11
 ·rw [if_pos e6];exact (hl (.inl e6)).app _
 rw [if_neg e6]
 by_cases e7:i.op=12
 ·rw [if_pos e7];exact Lst.one _ (by decide)
 rw [if_neg e7]
 split
 ·exact ⟨[102,101,110,99,101,46,116,115],111,rfl,by decide⟩
 ·exact (fpart_lst _).app _
theorem printX_lst {i:Ins} (h:checkX i=true):Lst (printX i):=by
 unfold checkX okX at h
 unfold printX
 by_cases h1:i.op=1
 ·rw [if_pos h1];exact (itoa_lst _).app _
 rw [if_neg h1] at h ⊢
 by_cases h2:i.op=2
 ·rw [if_pos h2] at h ⊢
  simp only [Bool.and_eq_true] at h
  obtain ⟨k,hk,e⟩:=regXB_nat h.1.2
  rw [e,rX_nat]
  exact (regX_lst hk).app _
 rw [if_neg h2] at h ⊢
 by_cases h3:i.op=3
 ·rw [if_pos h3];exact Lst.one _ (by decide)
 rw [if_neg h3] at h ⊢
 by_cases h4:i.op=4
 ·rw [if_pos h4];exact (itoa_lst _).app _
 rw [if_neg h4]
 exact ⟨[77,70,69,78,67],69,rfl,by decide⟩
theorem printI_inj {i j:Ins} (hi:checkI i=true) (hj:checkI j=true) (h:printI i=printI j):i=j:=by
 have:=parse_print i hi
 rw [h,parse_print j hj] at this
 exact (Option.some.inj this).symm
theorem checkX_shape {i:Ins} (h:checkX i=true) :
  (∃ l n,i=⟨1,0,0,0,n,l,[],0⟩∧nameB l=true)∨(∃ l,∃ a:Nat,i=⟨2,0,a,0,0,l,[],0⟩∧nameB l=true∧a<15)∨(∃ l,∃ d:Nat,i=⟨3,d,0,0,0,l,[],0⟩∧nameB l=true∧d<15)∨(∃ n,∃ d:Nat,i=⟨4,d,0,0,n,[],[],0⟩∧d<15)∨i=⟨5,0,0,0,0,[],[],0⟩:=by
 obtain ⟨ho,hw⟩:=checkX_spec h
 unfold okX at ho
 unfold wantX at hw
 by_cases h1:i.op=1
 ·rw [if_pos h1] at ho hw
  simp only [Bool.and_eq_true] at ho
  exact .inl ⟨_,_,hw,ho.1⟩
 rw [if_neg h1] at ho hw
 by_cases h2:i.op=2
 ·rw [if_pos h2] at ho hw
  simp only [Bool.and_eq_true] at ho
  obtain ⟨k,hk,e⟩:=regXB_nat ho.2
  exact .inr (.inl ⟨_,k,by rw [e] at hw;exact hw,ho.1,hk⟩)
 rw [if_neg h2] at ho hw
 by_cases h3:i.op=3
 ·rw [if_pos h3] at ho hw
  simp only [Bool.and_eq_true] at ho
  obtain ⟨k,hk,e⟩:=regXB_nat ho.2
  exact .inr (.inr (.inl ⟨_,k,by rw [e] at hw;exact hw,ho.1,hk⟩))
 rw [if_neg h3] at ho hw
 by_cases h4:i.op=4
 ·rw [if_pos h4] at ho hw
  simp only [Bool.and_eq_true] at ho
  obtain ⟨k,hk,e⟩:=regXB_nat ho.1
  exact .inr (.inr (.inr (.inl ⟨_,k,by rw [e] at hw;exact hw,hk⟩)))
 rw [if_neg h4] at ho hw
 simp only [decide_eq_true_eq] at ho
 rw [ho] at hw
 exact .inr (.inr (.inr (.inr hw)))
theorem regX_word {a:Nat} (h:a<15) : ∀ b∈regX a,wordC b=true:=by
 have k : ∀ n:Fin 15,(regX n.val).all wordC=true:=by decide +kernel
 exact List.all_eq_true.1 (k ⟨a,h⟩)
theorem regX_inj2 {a b:Nat} (ha:a<15) (hb:b<15) (h:regX a=regX b):a=b:=by
 have:=regX_inj ⟨a,ha⟩ ⟨b,hb⟩ h
 simpa using this
theorem regX_head {a:Nat} (h:a<15) : ∃ c t,regX a=c::t∧c≠91∧c≠36:=by
 cases e:regX a with
 | nil=>exact absurd e (regX_len_fin ⟨a,h⟩).2
 | cons c t =>
  have:=regX_word h c (by rw [e];simp)
  refine ⟨c,t,rfl,?_,?_⟩
  ·rintro rfl;exact absurd this (by decide)
  ·rintro rfl;exact absurd this (by decide)
theorem printX_inj {i j:Ins} (hi:checkX i=true) (hj:checkX j=true) (h:printX i=printX j):i=j:=by
 have n93 : ∀ {s:Tx},nameB s=true→(93:UInt8)∉s:=fun hs=>no_byte (name_all hs) (by decide)
 have r44 : ∀ {a:Nat},a<15→(44:UInt8)∉regX a:=fun ha=>no_byte (regX_word ha) (by decide)
 have nh : ∀ {a:Nat} {x y:Tx},a<15→regX a++x≠91::y:=fun {a x y} ha e=>by
  obtain ⟨c,t,e1,h1,-⟩:=regX_head ha
  rw [e1] at e;simp only [List.cons_append,List.cons.injEq] at e;exact h1 e.1
 have nd : ∀ {a:Nat} {y:Tx},a<15→regX a≠36::y:=fun {a y} ha e=>by
  obtain ⟨c,t,e1,-,h1⟩:=regX_head ha
  rw [e1] at e;simp only [List.cons.injEq] at e;exact h1 e.1
 rcases checkX_shape hi with ⟨l,n,rfl,a1⟩|⟨l,a,rfl,a1,a2⟩|⟨l,a,rfl,a1,a2⟩|⟨n,a,rfl,a2⟩|rfl <;>
 rcases checkX_shape hj with ⟨m,o,rfl,b1⟩|⟨m,b,rfl,b1,b2⟩|⟨m,b,rfl,b1,b2⟩|⟨o,b,rfl,b2⟩|rfl <;>
 simp [printX,rX_nat] at h
 ·obtain ⟨e1,e2⟩:=split_at h (n93 a1) (n93 b1)
  simp at e2
  rw [e1,itoa_inj e2]
 ·obtain ⟨e1,e2⟩:=split_at h (n93 a1) (n93 b1)
  simp at e2
  exact absurd e2.symm (nd b2)
 ·exact absurd h.symm (nh b2)
 ·exact absurd h.symm (nh b2)
 ·obtain ⟨e1,e2⟩:=split_at h (n93 a1) (n93 b1)
  simp at e2
  exact absurd e2 (nd a2)
 ·obtain ⟨e1,e2⟩:=split_at h (n93 a1) (n93 b1)
  simp at e2
  rw [e1,regX_inj2 a2 b2 e2]
 ·exact absurd h.symm (nh b2)
 ·exact absurd h.symm (nh b2)
 ·exact absurd h (nh a2)
 ·exact absurd h (nh a2)
 ·obtain ⟨e1,e2⟩:=split_at h (r44 a2) (r44 b2)
  simp at e2
  rw [regX_inj2 a2 b2 e1,e2]
 ·obtain ⟨e1,e2⟩:=split_at h (r44 a2) (r44 b2)
  simp at e2
 ·exact absurd h (nh a2)
 ·exact absurd h (nh a2)
 ·obtain ⟨e1,e2⟩:=split_at h (r44 a2) (r44 b2)
  simp at e2
 ·obtain ⟨e1,e2⟩:=split_at h (r44 a2) (r44 b2)
  simp at e2
  rw [regX_inj2 a2 b2 e1,itoa_inj e2]
 ·rfl
theorem cell_lst {arch:Int} {i:Ins} (ha:archB arch=true) (h:insA arch i=true):Lst (cellI arch i).1:=by
 unfold archB at ha
 simp only [Bool.or_eq_true,decide_eq_true_eq] at ha
 unfold insA at h
 unfold cellI
 rcases ha with rfl|rfl
 ·rw [if_pos rfl] at h ⊢;rw [if_pos h];exact printX_lst h
 ·rw [if_neg (by decide)] at h ⊢;rw [if_pos rfl,if_pos h];exact printI_lst h
theorem cell_inj {arch:Int} {i j:Ins} (ha:archB arch=true) (hi:insA arch i=true) (hj:insA arch j=true) (h:(cellI arch i).1=(cellI arch j).1):i=j:=by
 unfold archB at ha
 simp only [Bool.or_eq_true,decide_eq_true_eq] at ha
 unfold insA at hi hj
 unfold cellI at h
 rcases ha with rfl|rfl
 ·rw [if_pos rfl] at hi hj;rw [if_pos rfl,if_pos rfl,if_pos hi,if_pos hj] at h;exact printX_inj hi hj h
 ·rw [if_neg (by decide)] at hi hj;simp only [if_neg (show ¬ ((2:Int)=1) by decide),if_true,if_pos hi,if_pos hj] at h;exact printI_inj hi hj h
theorem getD_inj : ∀ {l m:List Tx},(∀ s∈l,s≠[])→(∀ s∈m,s≠[])→(∀ i,l.getD i []=m.getD i [])→l=m
 | [],[],_,_,_=>rfl
 | [],y::m,_,hm,h=>absurd (by simpa using (h 0).symm) (hm y (by simp))
 | x::l,[],hl,_,h=>absurd (by simpa using h 0) (hl x (by simp))
 | x::l,y::m,hl,hm,h=>by
  have h0:x=y:=by simpa using h 0
  have h1:l=m:=getD_inj (fun s hs=>hl s (by simp [hs])) (fun s hs=>hm s (by simp [hs])) fun i=>by simpa using h (i+1)
  rw [h0,h1]
theorem colT_lst {arch:Int} {k:Nat} {l:List Ins} (ha:archB arch=true) (h : ∀ i∈l,insA arch i=true) : ∀ s∈colT arch k l,Lst s:=by
 intro s hs
 unfold colT at hs
 rcases List.mem_cons.1 hs with rfl|hs
 ·exact (decN_lst _).app _
 ·obtain ⟨i,hi,rfl⟩:=List.mem_map.1 hs
  exact cell_lst ha (h i hi)
theorem colT_inj {arch:Int} {k:Nat} {l m:List Ins} (ha:archB arch=true) (hl : ∀ i∈l,insA arch i=true) (hm : ∀ i∈m,insA arch i=true) (h:colT arch k l=colT arch k m):l=m:=by
 unfold colT at h
 simp only [List.cons.injEq,true_and] at h
 exact map_inj_on (fun x hx y hy e=>cell_inj ha (hl x hx) (hm y hy) e) h
def Codes (t:Tst):Prop:=∀ x∈t.code,∀ i∈x.l,insA t.arch i=true
theorem high_le (t:Tst) {z:Cd} (hz:z∈t.code):z.l.length≤highT t:=by
 have key : ∀ (l:List Cd) (n:Nat),n≤l.foldl (fun n x=>max n x.l.length) n∧∀ z∈l,z.l.length≤l.foldl (fun n x=>max n x.l.length) n:=by
  intro l
  induction l with
  | nil=>intro n;simp
  | cons x r ih =>
   intro n
   have:=ih (max n x.l.length)
   refine ⟨by have:=this.1;simp only [List.foldl_cons];omega,fun z hz=>?_⟩
   simp only [List.foldl_cons]
   rcases List.mem_cons.1 hz with rfl|hz
   ·have:=this.1;omega
   ·exact this.2 z hz
 exact (key t.code 0).2 z hz
theorem rows_code {a b:Tst} (ha:archB a.arch=true) (hab:a.arch=b.arch) (ca:Codes a) (cb:Codes b) (hh:highT a=highT b) (h : ∀ i,i≤highT a→rowT i a=rowT i b):codL a.code=codL b.code:=by
 have hl:a.code.length=b.code.length:=by rw [← rowT_length 0 a,← rowT_length 0 b,h 0 (by omega)]
 refine list_eq_of (by rw [codL_length,codL_length,hl]) fun k hk=>?_
 rw [codL_length] at hk
 obtain ⟨x,hx⟩ : ∃ x,a.code[k]? = some x:=⟨_,List.getElem?_eq_getElem hk⟩
 obtain ⟨y,hy⟩ : ∃ y,b.code[k]? = some y:=⟨_,List.getElem?_eq_getElem (by rw [← hl];exact hk)⟩
 rw [codL_at hx,codL_at hy]
 have ix:=ca x (List.mem_of_getElem? hx)
 have iy:=cb y (List.mem_of_getElem? hy)
 rw [← hab] at iy
 congr 1
 refine colT_inj (k:=k) ha ix iy (getD_inj (fun s hs=>(colT_lst ha ix s hs).ne) (fun s hs=>(colT_lst ha iy s hs).ne) fun i=>?_)
 by_cases hi:i≤highT a
 case neg =>
  have e : ∀ (t:Tst) (z:Cd) (arch:Int),z∈t.code→highT t<i→(colT arch k z.l).getD i [] = []:=fun t z arch hz hlt=>by
   have:=high_le t hz
   rw [List.getD_eq_getElem?_getD,List.getElem?_eq_none (by rw [colT_length];omega)];rfl
  rw [e a x _ (List.mem_of_getElem? hx) (by omega),e b y _ (List.mem_of_getElem? hy) (by omega)]
 have e1:=rowT_at i hx
 have e2:=rowT_at i hy
 rw [h i hi,e2,← hab] at e1
 have e3:=Option.some.inj e1
 have ok : ∀ l:List Tx,(∀ s∈l,Lst s)→l.getD i [] = []∨(l.getD i []).getLast?≠some 32:=fun l hl=>by
  rw [List.getD_eq_getElem?_getD]
  cases e:l[i]? with
  | none=>exact .inl rfl
  | some s=>exact (hl s (List.mem_of_getElem? e)).ok
 exact (padT_inj (ok _ (colT_lst ha iy)) (ok _ (colT_lst ha ix)) e3).symm
theorem bar_byte {b:UInt8} : ∀ {l:List Tx},(∀ s∈l,CellB s)→b≠32→b≠124→cellC b=false→b∉barT l
 | [],_,_,_,_=>by simp [barT,List.intercalate]
 | [x],h,_,_,hb=>by rw [barT_one];exact no_byte (h x (by simp)) hb
 | x::y::r,h,h1,h2,hb=>by
  rw [barT_two]
  intro m
  rcases List.mem_append.1 m with m|m
  ·exact no_byte (h x (by simp)) hb m
  ·rcases List.mem_append.1 m with m|m
   ·simp at m;rcases m with e|e
    ·exact h1 e
    ·rcases e with e|e
     ·exact h2 e
     ·exact h1 e
   ·exact bar_byte (l:=y::r) (fun s hs=>h s (by simp at hs ⊢;exact .inr hs)) h1 h2 hb m
theorem lineT_start (i:Nat) (t:Tst):(10:UInt8)∉lineT i t∧∃ c u,lineT i t=c::u∧c=32:=by
 refine ⟨?_,32,barT (rowT i t)++[32,59],by rw [lineT_eq];simp,rfl⟩
 rw [lineT_eq]
 intro m
 simp only [List.mem_append] at m
 rcases m with (m|m)|m
 ·simp at m
 ·exact bar_byte (rowT_cell i t) (by decide) (by decide) (by decide) m
 ·simp at m
theorem table_inj {a b:Tst} {r s:Tx} (hr : ∃ c t,r=c::t∧¬ c=32) (hs : ∃ c t,s=c::t∧¬ c=32)
  (h:((tableT a).flatMap fun l=>l++[10])++r=((tableT b).flatMap fun l=>l++[10])++s):tableT a=tableT b∧r=s:=by
 refine lines_inj (p:=fun c=>c=32) (fun l hl=>?_) (fun l hl=>?_) hr hs h
 ·unfold tableT at hl;obtain ⟨i,-,rfl⟩:=List.mem_map.1 hl;exact lineT_start i a
 ·unfold tableT at hl;obtain ⟨i,-,rfl⟩:=List.mem_map.1 hl;exact lineT_start i b
theorem table_code {a b:Tst} (ha:archB a.arch=true) (hab:a.arch=b.arch) (ca:Codes a) (cb:Codes b) (na:a.code≠[]) (nb:b.code≠[]) (h:tableT a=tableT b):codL a.code=codL b.code:=by
 have hh:highT a=highT b:=by
  have:=congrArg List.length h
  rw [tableT_length,tableT_length] at this;omega
 refine rows_code ha hab ca cb hh fun i hi=>lineT_row na nb ?_
 have e1:=tableT_at (t:=a) (k:=i) (by omega)
 have e2:=tableT_at (t:=b) (k:=i) (by omega)
 rw [h,e2] at e1
 exact (Option.some.inj e1).symm
end Go.Proofs.YthaibjefnclkjaaGreatDoor
