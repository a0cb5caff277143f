/- What ReadPiecesP leans on, part 11. -/
import Derived.Test.YtkbbgjloifmmbaaGreatDoorRp10
set_option linter.unusedVariables false
set_option maxRecDepth 100000
set_option maxHeartbeats 3200000
namespace Go.Proofs.YtkbbgjloifmmbaaGreatDoor
def lexT(s:Tx):List Tx:=(lex 0 s).map (·.1)
theorem lexF_place: ∀(n p q:Nat) (s:Tx),(lexF n p s).map (·.1)=(lexF n q s).map (·.1)
 |0,_,_,_=>rfl
 |n+1,_,_,[]=>rfl
 | n+1,p,q,c::r=>by
   show(if blankC c then lexF n (p+1) r else _::lexF n _ _).map (·.1)=(if blankC c then lexF n (q+1) r else _::lexF n _ _).map (·.1);split
   ·exact lexF_place n _ _ r
   ·simp only[List.map_cons];rw[lexF_place n (p+longT (c::r)) (q+longT (c::r))]
theorem lex_place(p:Nat)(s:Tx):(lex p s).map (·.1)=lexT s:=lexF_place _ _ _ _
theorem lexT_nil:lexT []=[]:=rfl
theorem lexT_blank{c:UInt8}(r:Tx)(h:blankC c=true):lexT (c::r)=lexT r:=by rw[lexT,lex_blank 0 r h,lex_place]
theorem lexT_tok{c:UInt8}(r:Tx)(h:blankC c=false):lexT (c::r)=(c::r).take (longT (c::r))::lexT ((c::r).drop (longT (c::r))):=by
 rw[lexT,lex_tok 0 r h,List.map_cons,lex_place]
def hardC(c:UInt8):Bool:=c==61||c==58||c==91||c==93
theorem hard_no{c:UInt8}(h:hardC c=true):blankC c=false/\nameC c=false/\digitC c=false/\letterC c=false/\c≠45/\c≠47/\c≠92:=by
 have k:=u8_all (p:=fun c=> !hardC c||(!blankC c&& !nameC c&& !digitC c&& !letterC c&&c != 45&&c != 47&&c != 92)) (by decide+kernel) c;rw[h]at k;simpa[and_assoc]using k
theorem longT_hard{c:UInt8}(r:Tx)(h:hardC c=true):longT (c::r)=1:=by
 obtain⟨h1,h2,h3,h4,h5,h6,h7⟩:=hard_no h;rw[longT_eq];simp[h3,h4,h5,h6,h7]
theorem tw_sep{p:UInt8->Bool}{c:UInt8}(h:p c=false)(B:Tx): ∀A:Tx,(A++c::B).takeWhile p=A.takeWhile p
 |[]=>by simp[h]
 | x::A=>by
   rw[List.cons_append,List.takeWhile_cons,List.takeWhile_cons,tw_sep h B A]
theorem longT_sep{c x:UInt8}(A B:Tx)(h:hardC c=true):longT (x::A++c::B)=longT (x::A):=by
 obtain⟨h1,h2,h3,h4,h5,h6,h7⟩:=hard_no h;rw[List.cons_append];rw[longT_eq,longT_eq];rw[tw_sep h2,tw_sep h3];cases A with
 |nil=>simp[h3,h6,h7]
 |cons y A=>simp
theorem lexT_sep: ∀(n:Nat) (A B:Tx) {c:UInt8},A.length<=n->hardC c=true->lexT (A++c::B)=lexT A++[c]::lexT B
 | _,[],B,c,_,h=>by
   rw[List.nil_append,lexT_tok _ (hard_no h).1,longT_hard _ h];rfl
 |0,_::_,_,_,hn,_=>absurd hn (by simp)
 | n+1,x::A,B,c,hn,h=>by
   simp only[List.length_cons]at hn;cases hb:blankC x with
   |true=>rw[List.cons_append,lexT_blank _ hb,lexT_blank _ hb,lexT_sep n A B (by omega) h]
   | false=>
     have hp:=longT_pos x A;have hle:=longT_le x A;have e:=longT_sep (x:=x) A B h;rw[List.cons_append]at e⊢;rw[lexT_tok _ hb,lexT_tok _ hb,e,<-List.cons_append,List.take_append_of_le_length (by simp;omega),List.drop_append_of_le_length (by simp;omega),lexT_sep n _ B (by simp;omega) h,List.cons_append]
theorem lexT_pad: ∀(n:Nat) (A B:Tx),A.length<=n->(∀c∈B,blankC c=true)->lexT (A++B)=lexT A
 |_,[],[],_,_=>rfl
 |n,[],c::B,hn,h=>by rw[List.nil_append,lexT_blank _ (h c (by simp))];exact lexT_pad n [] B hn (fun d hd=>h d (by simp[hd]))
 |0,_::_,_,hn,_=>absurd hn (by simp)
 |n+1,x::A,[],hn,h=>by rw[List.append_nil]
 | n+1,x::A,c::B,hn,h=>by
   simp only[List.length_cons]at hn;have hc:=h c (by simp)
   have hno:nameC c=false/\digitC c=false/\c≠47/\c≠92:=by
    have k:=u8_all (p:=fun c=> !blankC c||(!nameC c&& !digitC c&&c != 47&&c != 92)) (by decide+kernel) c;rw[hc]at k;simpa[and_assoc]using k
   cases hb:blankC x with
   |true=>rw[List.cons_append,lexT_blank _ hb,lexT_blank _ hb,lexT_pad n A _ (by omega) h]
   | false=>
     have hp:=longT_pos x A;have hle:=longT_le x A
     have e:longT (x::(A++c::B))=longT (x::A):=by
      rw[longT_eq,longT_eq];rw[tw_sep hno.1,tw_sep hno.2.1];cases A with
      |nil=>simp[hno.2.1,hno.2.2.1,hno.2.2.2]
      |cons y A=>simp
     rw[List.cons_append,lexT_tok _ hb,lexT_tok _ hb,e,<-List.cons_append,List.take_append_of_le_length (by simp;omega),List.drop_append_of_le_length (by simp;omega),lexT_pad n _ _ (by simp;omega) h]
theorem lexT_dw: ∀l:Tx,lexT (l.dropWhile blankC)=lexT l
 |[]=>rfl
 | c::r=>by
   rw[List.dropWhile_cons];split
   ·rename_i h;rw[lexT_dw r,lexT_blank _ h]
   ·rfl
theorem lexT_trim(l:Tx):lexT (trimT l)=lexT l:=by
 obtain⟨b,h1,h2⟩:=rdr_app l;rw[trimT_rdr,lexT_dw]
 conv=>rhs;rw[h1]
 exact(lexT_pad _ _ _ (Nat.le_refl _) h2).symm
theorem lexT_empty: ∀{s:Tx},lexT s=[]-> ∀c∈s,blankC c=true
 |[],_,c,hc=>by cases hc
 | x::s,h,c,hc=>by
   cases hb:blankC x with
   | true=>
     rw[lexT_blank _ hb]at h;rcases List.mem_cons.1 hc with rfl|hc
     ·exact hb
     ·exact lexT_empty h c hc
   |false=>rw[lexT_tok _ hb]at h;cases h
theorem lexT_inv{s w:Tx}{L:List Tx}(h: ∀c,s.head?=some c->blankC c=false)(hw:lexT s=w::L): ∃r,s=w++r/\lexT r=L/\w≠[]:=by
 cases s with
 |nil=>cases hw
 | cons c r=>
   rw[lexT_tok _ (h c rfl),List.cons.injEq]at hw;refine⟨_,by rw[<-hw.1];exact(List.take_append_drop _ _).symm,hw.2,?_⟩;rw[<-hw.1];have:=longT_pos c r;cases hk:longT (c::r)with
   |zero=>omega
   |succ k=>simp
theorem lexT_one{s a:Tx}(h:Tr s)(hw:lexT s=[a]):s=a:=by
 obtain⟨r,rfl,hr, -⟩:=lexT_inv h.1 hw;rw[blank_last h.2 (lexT_empty hr),List.append_nil]
theorem lexT_mem: ∀(n:Nat) (s:Tx),s.length<=n-> ∀w∈lexT s,∀c∈w,c∈s
 |_,[],_,w,hw,_,_=>by cases hw
 |0,_::_,hn,_,_,_,_=>absurd hn (by simp)
 | n+1,x::s,hn,w,hw,c,hc=>by
   simp only[List.length_cons]at hn;cases hb:blankC x with
   |true=>rw[lexT_blank _ hb]at hw;exact List.mem_cons_of_mem _ (lexT_mem n s (by omega) w hw c hc)
   | false=>
     have hp:=longT_pos x s;rw[lexT_tok _ hb]at hw;rcases List.mem_cons.1 hw with rfl|hw
     ·exact List.mem_of_mem_take hc
     ·exact List.mem_of_mem_drop (lexT_mem n _ (by simp;omega) w hw c hc)
theorem lexT_in{s w:Tx}{c:UInt8}(hw:w∈lexT s)(hc:c∈w):c∈s:=lexT_mem _ s (Nat.le_refl _) w hw c hc
theorem lexT_single{s:Tx}(h0:s≠[])(hb: ∀c,s.head?=some c->blankC c=false)(h:longT s=s.length):lexT s=[s]:=by
 cases s with
 |nil=>exact absurd rfl h0
 | cons c r=>
   rw[lexT_tok _ (hb c rfl),h];simp[lexT_nil]
theorem letter_blank{c:UInt8}(h:letterC c=true):blankC c=false:=by
 have k:=u8_all (p:=fun c=> !letterC c|| !blankC c) (by decide+kernel) c;rw[h]at k;simpa using k
theorem word_lex{s:Tx}(h: ∃c r,s=c::r/\letterC c=true)(h2: ∀b∈s,nameC b=true):lexT s=[s]:=by
 obtain⟨c,r,rfl,hc⟩:=h;refine lexT_single (by simp) (fun d hd=>by simp at hd;subst hd;exact letter_blank hc) ?_;rw[longT_eq];rw[if_pos hc,(tw_all (fun b hb=>h2 b (by simp[hb]))).1,List.length_cons];omega
theorem name_lex{s:Tx}(h:nameB s=true):lexT s=[s]:=word_lex (name_first h) (name_all h)
theorem digit_no{c:UInt8}(h:digitC c=true):blankC c=false/\letterC c=false/\c≠45:=by
 have k:=u8_all (p:=fun c=> !digitC c||(!blankC c&& !letterC c&&c != 45)) (by decide+kernel) c;rw[h]at k;simpa[and_assoc]using k
theorem itoa_lex(n:Int):lexT (Lib.itoa n)=[Lib.itoa n]:=by
 unfold Lib.itoa;split
 ·have h1:=dec_ne n.natAbs
  have h2:=digits_all (dec_digit n.natAbs);generalize Lib.decDigits n.natAbs=d at*;refine lexT_single (by simp) (fun c hc=>by simp at hc;subst hc;rfl) ?_;cases d with
  |nil=>exact absurd rfl h1
  | cons c r=>
    rw[List.all_eq_true]at h2;have h3:(c::r).takeWhile digitC=c::r:=(tw_all h2).1;have h4:=h2 c (by simp);rw[longT_eq];rw[if_neg (by decide),if_pos (by simp[h4]),h3];simp;omega
 ·have h1:=dec_ne n.toNat
  have h2:=digits_all (dec_digit n.toNat);generalize Lib.decDigits n.toNat=d at*;cases d with
  |nil=>exact absurd rfl h1
  | cons c r=>
    rw[List.all_eq_true]at h2;have h4:=h2 c (by simp);obtain⟨b1,b2,b3⟩:=digit_no h4;refine lexT_single (by simp) (fun d hd=>by simp at hd;subst hd;exact b1) ?_;have h3:r.takeWhile digitC=r:=(tw_all (fun b hb=>h2 b (by simp[hb]))).1;rw[longT_eq];rw[if_neg (by simp[b2]),if_pos (by simp[h4]),h3];simp;omega
theorem regOfA_some{arch:Int}{s:Tx}{n:Nat}(h:regOfA arch s=some n):(n:Int)<regsN arch/\s=regA arch n:=by
 unfold regOfA at h;have h1:=List.find?_some h;have h2:=List.mem_range.1 (List.mem_of_find?_eq_some h);exact⟨by omega,(by simpa using h1:regA arch n=s).symm⟩
theorem regA_lex{arch:Int}{n:Nat}(h:(n:Int)<regsN arch):lexT (regA arch n)=[regA arch n]:=by
 have h1: ∀n:Fin 15,lexT (regX n.val)=[regX n.val]:=by decide+kernel
 have h2: ∀n:Fin 32,lexT (regT n.val)=[regT n.val]:=by decide+kernel
 unfold regA regsN at*;split
 ·rename_i e;rw[if_pos e]at h;exact h1 ⟨n,by omega⟩
 ·rename_i e;rw[if_neg e]at h;exact h2 ⟨n,by omega⟩
def thingP(arch:Int):List Tx->Option Ini
 |[a]=>if nameB a=true then some ⟨-1,0,a,[],0⟩else none
 | [a,b,c]=>if a=[91]/\c=[93]/\nameB b=true then some ⟨-1,0,b,[],0⟩
   else if b=[58]then(match numR a,regOfA arch c with
    |some n,some r=>if 0<=n/\n<16 then some ⟨n,r,[],[],0⟩else none
    |_,_=>none)
   else none
 |_=>none
theorem thingP3(arch:Int)(a b c:Tx):thingP arch [a,b,c]=if a=[91]/\c=[93]/\nameB b=true then some ⟨-1,0,b,[],0⟩
 else if b=[58]then(match numR a,regOfA arch c with
  |some n,some r=>if 0<=n/\n<16 then some ⟨n,r,[],[],0⟩else none
  |_,_=>none)
 else none:=rfl
theorem numR_58:numR [58]=none:=by decide+kernel
theorem numR_61:numR [61]=none:=by decide+kernel
theorem numR_91:numR [91]=none:=by decide+kernel
theorem val_words{s:Tx}(h:Tr s):valZ s=match lexT s with
 |[a]=>valZ a
 |_=>none:=by
 cases hr:valZ s with
 | some n=>
   have e:lexT s=[s]:=by
    unfold valZ at hr;cases hn:numR s with
    |some v=>obtain⟨rfl, -⟩:=numR_iff.1 hn;exact itoa_lex v
    | none=>
      rw[hn]at hr;simp only at hr
      split at hr
      ·rename_i hh;exact name_lex hh
      ·cases hr
   rw[e];exact hr.symm
 | none=>
   split
   ·rename_i a e;rw[<-lexT_one h e];exact hr.symm
   ·rfl
theorem lexT_last{m:Tx}{z:UInt8}(hz:blankC z=false){L:List Tx}{c:UInt8}(hc:hardC c=true)(h:lexT (m++[z])=L++[[c]]):z=c/\lexT m=L:=by
 have key: ∀(n:Nat) (m:Tx),m.length<=n-> ∃K w,lexT (m++[z])=K++[w++[z]]:=by
  intro n
  induction n with
  | zero=>
    intro m hm;obtain rfl:=List.length_eq_zero_iff.1 (by omega:m.length=0);refine⟨[],[],?_⟩;rw[List.nil_append,lexT_tok _ hz];have h1:=longT_pos z [];have h2:=longT_le z [];rw[show longT [z]=1 by simp at h2;omega];rfl
  | succ n ih=>
    intro m hm;cases m with
    |nil=>exact ih [] (by simp)
    | cons x m=>
      simp only[List.length_cons]at hm;rw[List.cons_append];cases hb:blankC x with
      |true=>rw[lexT_blank _ hb];exact ih m (by omega)
      | false=>
        have hp:=longT_pos x (m++[z]);have hle:=longT_le x (m++[z]);rw[lexT_tok _ hb];obtain⟨k,hk⟩: ∃k,longT (x::(m++[z]))=k:=⟨_,rfl⟩;rw[hk]at hp hle⊢;rw[<-List.cons_append];rcases Nat.lt_or_ge (x::m).length k with h1|h1
        ·have:k=(x::m++[z]).length:=by simp at hle h1 ⊢; omega
         refine⟨[],x::m,?_⟩;rw[this,List.take_length,List.drop_length];rfl
        ·obtain⟨K,w,e⟩:=ih ((x::m).drop k) (by simp;omega)
         refine⟨(x::m++[z]).take k::K,w,?_⟩;rw[List.drop_append_of_le_length h1,e];rfl
 cases hh:hardC z with
 | true=>
   have e:=lexT_sep _ m [] (Nat.le_refl _) hh;rw[show m++z::[]=m++[z]from rfl,h]at e;have:=List.append_inj' (show L++[[c]]=lexT m++[[z]]from e) rfl;exact⟨by simpa using this.2.symm,this.1.symm⟩
 | false=>
   obtain⟨K,w,e⟩:=key _ m (Nat.le_refl _);rw[h]at e;have:=(List.append_inj' e rfl).2;have e4:[]++[c]=w++[z]:=by simpa using this
   have e5:=(List.append_inj' e4 rfl).2;simp only[List.cons.injEq,and_true]at e5;rw[e5]at hc;rw[hc]at hh;cases hh
theorem thing_words(arch:Int){s:Tx}(h:Tr s):thingI arch s=thingP arch (lexT s):=by
 unfold thingI
 by_cases hbr:s.head?=some 91/\s.getLast?=some 93/\2<=s.length
 ·rw[if_pos hbr]
  obtain⟨h1,h2,h3⟩:=hbr;have e:=mid_ends h3 h1 h2;generalize (s.drop 1).dropLast=m at*;subst e
  have e2:lexT (91::(m++[93]))=[91]::(lexT m++[[93]]):=by
   have:=lexT_sep 0 [] (m++[93]) (c:=91) (by simp) (by decide);rw[List.nil_append]at this;rw[this,show m++[93]=m++93::[]from rfl,lexT_sep _ m [] (Nat.le_refl _) (by decide)];rfl
  rw[e2];split
  ·rename_i hn
   rw[<-lexT_trim m,name_lex hn];show _=if _ then _ else _
   rw[if_pos ⟨rfl,rfl,hn⟩]
  ·rename_i hn
   have hl:=lexT_trim m;generalize lexT m=M at*
   match M with
   |[]=>rfl
   | [b]=>
     have ht:trimT m=b:=lexT_one (Tr.trim m) hl;show none=if _ then _ else _
     rw[if_neg (by rintro⟨-, -, hb⟩;rw[ht]at hn;exact hn hb)];split
     ·rw[numR_91]
     ·rfl
   |_::_::t=>cases t<;>rfl
 ·rw[if_neg hbr]
  by_cases h58:(58:UInt8)∈s
  ·rw[if_pos h58]
   obtain⟨A,B,e,hA⟩:=first_of 58 _ h58;obtain⟨k1,k2⟩:=tw_app 58 B A hA;rw[<-e]at k1 k2;have e2:lexT s=lexT (trimT A)++[58]::lexT (trimT B):=by rw[e,lexT_sep _ A B (Nat.le_refl _) (by decide),lexT_trim,lexT_trim]
   rw[k1,k2,e2];simp only[List.drop_one,List.tail_cons];have hno:([58]:Tx)∉lexT (trimT A):=fun hm=>hA (trimT_mem (lexT_in hm (by simp)))
   cases hn:numR (trimT A)with
   | none=>
     have t1:=fun a (e:lexT (trimT A)=[a])=>lexT_one (Tr.trim A) e
     generalize lexT (trimT A)=P at*;generalize lexT (trimT B)=Q at*
     match P,Q with
     |[],[]=>rfl
     |[],[_]=>rfl
     | [],[b,c]=>
       show none=thingP arch [[58],b,c];rw[thingP3,if_neg (by rintro⟨e, -⟩;cases e),numR_58]
       split<;>rfl
     |[],_::_::_::_=>rfl
     |[a],[]=>rfl
     | [a],[c]=>
       show none=if _ then _ else _
       rw[if_neg (by rintro⟨-, -, e⟩;cases e),if_pos rfl,<-t1 a rfl,hn]
     |[a],_::_::_=>rfl
     | [a,b],[]=>
       show none=if _ then _ else _
       rw[if_neg (by rintro⟨-, e, -⟩;cases e),if_neg (fun e=>hno (by simp[e]))]
     |[a,b],_::_=>rfl
     |_::_::_::t,Q=>cases t<;>cases Q<;>rfl
   | some n=>
     have eA:lexT (trimT A)=[trimT A]:=by obtain⟨e, -⟩:=numR_iff.1 hn;rw[e];exact itoa_lex n
     rw[eA];cases hr:regOfA arch (trimT B)with
     | none=>
       have t1:=fun a (e:lexT (trimT B)=[a])=>lexT_one (Tr.trim B) e
       generalize lexT (trimT B)=Q at*
       match Q with
       |[]=>rfl
       | [c]=>
         show none=if _ then _ else _
         rw[if_neg (by rintro⟨-, -, e⟩;cases e),if_pos rfl,<-t1 c rfl,hr];simp only[hn]
       |_::_::_=>rfl
     | some r=>
       obtain⟨e1,e3⟩:=regOfA_some hr;have eB:lexT (trimT B)=[trimT B]:=by rw[e3];exact regA_lex e1
       rw[eB];show _=if _ then _ else _
       rw[if_neg (by rintro⟨-, -, e⟩;cases e),if_pos rfl,hn,hr]
  ·rw[if_neg h58]
   split
   ·rename_i hn;rw[name_lex hn];show _=if _ then _ else _;rw[if_pos hn]
   ·rename_i hn
    have hno:([58]:Tx)∉lexT s:=fun hm=>h58 (lexT_in hm (by simp))
    have t1:=fun a (e:lexT s=[a])=>lexT_one h e
    have t3: ∀b,lexT s≠[[91],b,[93]]:=fun b e3=>by
     obtain⟨r,hs,hr, -⟩:=lexT_inv h.1 e3;have hne:r≠[]:=by intro e;subst e;cases hr
     obtain⟨z,hz⟩: ∃z,r.getLast?=some z:=⟨r.getLast hne,List.getLast?_eq_some_getLast hne⟩;obtain⟨m,rfl⟩:=last_iff.1 hz;have hzb:blankC z=false:=h.2 z (by rw[hs,last_of_app hne];exact hz);obtain⟨rfl, -⟩:=lexT_last hzb (L:=[b]) (c:=93) (by decide) hr;exact hbr ⟨by rw[hs];rfl,by rw[hs,last_of_app hne];exact hz,by rw[hs];simp⟩
    generalize lexT s=P at*
    match P with
    |[]=>rfl
    |[a]=>show none=if _ then _ else _;rw[if_neg (by rw[<-t1 a rfl];exact hn)]
    |[_,_]=>rfl
    | [a,b,c]=>
      show none=if _ then _ else _
      rw[if_neg (by rintro⟨rfl,rfl, -⟩;exact t3 b rfl),if_neg (fun e=>hno (by simp[e]))]
    |_::_::_::_::_=>rfl
def initL'(arch:Int):List Tx->Option Ini
 |[a,e,v]=>if e=[61]then initC (thingP arch [a]) (valZ v)else none
 |[a,b,c,e,v]=>if e=[61]then initC (thingP arch [a,b,c]) (valZ v)else none
 |_=>none
theorem initL3(arch:Int)(a e v:Tx):initL' arch [a,e,v]=if e=[61]then initC (thingP arch [a]) (valZ v)else none:=rfl
theorem initL5(arch:Int)(a b c e v:Tx):initL' arch [a,b,c,e,v]=if e=[61]then initC (thingP arch [a,b,c]) (valZ v)else none:=rfl
theorem initR_lex{arch:Int}{s:Tx}(hl:s.length<=262144):initR arch s=initL' arch (lexT s):=by
 unfold initR
 by_cases h61:(61:UInt8)∈s
 ·rw[if_neg (by rintro(h|h);omega;exact h h61)]
  obtain⟨A,B,e,hA⟩:=first_of 61 _ h61;obtain⟨k1,k2⟩:=tw_app 61 B A hA;rw[<-e]at k1 k2;have e2:lexT s=lexT (trimT A)++[61]::lexT (trimT B):=by rw[e,lexT_sep _ A B (Nat.le_refl _) (by decide),lexT_trim,lexT_trim]
  rw[k1,k2,e2];simp only[List.drop_one,List.tail_cons];rw[thing_words arch (Tr.trim A),val_words (Tr.trim B)];have hno:([61]:Tx)∉lexT (trimT A):=fun hm=>hA (trimT_mem (lexT_in hm (by simp)))
  have c1:thingP arch [[61]]=none:=rfl
  have c2: ∀b c:Tx,thingP arch [[61],b,c]=none:=fun b c=>by
   rw[thingP3,if_neg (by rintro⟨e, -⟩;cases e),numR_61]
   split<;>rfl
  have r61:regOfA arch [61]=none:=by
   cases hr:regOfA arch [61]with
   |none=>rfl
   | some n=>
     obtain⟨h1,h2⟩:=regOfA_some hr;have h3:=regA_lex h1;have k1: ∀n:Fin 15,regX n.val≠[61]:=by decide+kernel
     have k2: ∀n:Fin 32,regT n.val≠[61]:=by decide+kernel
     unfold regA regsN at*
     split at h2
     ·rename_i e;rw[if_pos e]at h1;exact absurd h2.symm (k1 ⟨n,by omega⟩)
     ·rename_i e;rw[if_neg e]at h1;exact absurd h2.symm (k2 ⟨n,by omega⟩)
  have c3: ∀a b:Tx,thingP arch [a,b,[61]]=none:=fun a b=>by
   show(if _ then _ else _)=_;rw[if_neg (by rintro⟨-, e, -⟩;cases e)];split
   ·rw[r61];cases numR a<;>rfl
   ·rfl
  have c4: ∀a c:Tx,thingP arch [a,[61],c]=none:=fun a c=>by
   show(if _ then _ else _)=_;rw[if_neg (by rintro⟨-, -, e⟩;cases e),if_neg (by decide)]
  generalize lexT (trimT A)=P at*;generalize lexT (trimT B)=Q at*;have n1: ∀a:Tx,thingP arch [a]=thingP arch [a]:=fun _=>rfl
  match P,Q with
  |[],[]=>rfl
  |[],[_]=>rfl
  |[],[b,c]=>show none=initL' arch [[61],b,c];rw[initL3,c1,initC_no];split<;>rfl
  |[],[_,_,_]=>rfl
  |[],[b,c,d,e]=>show none=initL' arch [[61],b,c,d,e];rw[initL5,c2,initC_no];split<;>rfl
  |[],_::_::_::_::_::_=>rfl
  |[a],[]=>exact initC_none _
  |[a],[v]=>show initC (thingP arch [a]) (valZ v)=initL' arch [a,[61],v];rw[initL3,if_pos rfl]
  |[a],[_,_]=>exact initC_none _
  |[a],[c,d,e]=>show initC (thingP arch [a]) none=initL' arch [a,[61],c,d,e];rw[initL5,c4,initC_none,initC_no];split<;>rfl
  |[a],_::_::_::_::_=>exact initC_none _
  | [a,b],[]=>
    have hb:b≠[61]:=fun e=>hno (by simp[e])
    show none=initL' arch [a,b,[61]];rw[initL3,if_neg hb]
  |[a,b],[_]=>rfl
  |[a,b],[d,e]=>show none=initL' arch [a,b,[61],d,e];rw[initL5,c3,initC_no];split<;>rfl
  |[a,b],_::_::_::_=>rfl
  |[a,b,c],[]=>exact initC_none _
  |[a,b,c],[v]=>show initC (thingP arch [a,b,c]) (valZ v)=initL' arch [a,b,c,[61],v];rw[initL5,if_pos rfl]
  |[a,b,c],_::_::_=>exact initC_none _
  | [a,b,c,d],[]=>
    have hd:d≠[61]:=fun e=>hno (by simp[e])
    show none=initL' arch [a,b,c,d,[61]];rw[initL5,if_neg hd]
  |[a,b,c,d],_::_=>rfl
  |_::_::_::_::_::t,Q=>cases t<;>cases Q<;>rfl
 ·rw[if_pos (.inr h61)]
  have hno:([61]:Tx)∉lexT s:=fun hm=>h61 (lexT_in hm (by simp))
  generalize lexT s=P at*
  match P with
  |[]=>rfl
  |[_]=>rfl
  |[_,_]=>rfl
  |[a,e,v]=>rw[initL3,if_neg (fun h=>hno (by simp[h]))]
  |[_,_,_,_]=>rfl
  |[a,b,c,e,v]=>rw[initL5,if_neg (fun h=>hno (by simp[h]))]
  |_::_::_::_::_::_::_=>rfl
theorem takeR_cons(s:Tx)(t:Tok)(l:List Tok):takeR s (t::l)=if t.1=s then .ok l else .error (t::l):=rfl
theorem intR_cons(a b:Int)(t:Tok)(l:List Tok):intR a b (t::l)=match numR t.1 with
 |some n=>if a<=n/\n<=b then .ok (n,l)else .error (t::l)
 |none=>.error (t::l):=rfl
theorem locR_cons(t:Tok)(l:List Tok):locR (t::l)=if nameB t.1 then .ok (t.1,l)else .error (t::l):=rfl
theorem takeR_ok{s:Tx}{l r:List Tok}(h:takeR s l= .ok r): ∃t,l=t::r/\t.1=s:=by
 cases l with
 |nil=>cases h
 | cons t l=>
   rw[takeR_cons]at h
   split at h
   ·rename_i e;cases h;exact⟨t,rfl,e⟩
   ·cases h
theorem intR_ok{a b:Int}{l r:List Tok}{n:Int}(h:intR a b l= .ok (n,r)): ∃t,l=t::r/\numR t.1=some n/\a<=n/\n<=b:=by
 cases l with
 |nil=>cases h
 | cons t l=>
   rw[intR_cons]at h
   split at h
   ·rename_i e
    split at h
    ·rename_i hh;cases h;exact⟨t,rfl,e,hh.1,hh.2⟩
    ·cases h
   ·cases h
theorem locR_ok{l r:List Tok}{s:Tx}(h:locR l= .ok (s,r)): ∃t,l=t::r/\t.1=s/\nameB s=true:=by
 cases l with
 |nil=>cases h
 | cons t l=>
   rw[locR_cons]at h
   split at h
   ·rename_i e;cases h;exact⟨t,rfl,rfl,e⟩
   ·cases h
theorem thingR_ok{arch:Int}{l r:List Tok}{t:Th}(h:thingR arch l= .ok (t,r)):thingB arch t=true/\r.length<l.length:=by
 unfold thingR at h
 split at h
 ·split at h
  ·cases h
  ·rename_i x r1 e1
   split at h
   ·cases h
   ·rename_i r2 e2
    cases h;obtain⟨t1,f1,f2,f3⟩:=locR_ok e1;obtain⟨t2,rfl,g2⟩:=takeR_ok e2;refine⟨by unfold thingB;simp[f3],?_⟩;have:=congrArg List.length f1;simp only[List.length_tail,List.length_cons]at this;omega
 ·split at h
  ·split at h
   ·cases h
   ·rename_i n r1 e1
    split at h
    ·cases h
    ·rename_i r2 e2
     split at h
     ·cases h
     ·rename_i k hk
      cases h;obtain⟨t1,rfl,f2,f3,f4⟩:=intR_ok e1;obtain⟨t2,rfl,g2⟩:=takeR_ok e2;obtain⟨k1,k2⟩:=regOfA_some hk;refine⟨?_,by simp;omega⟩;unfold thingB;rw[if_neg (by simp only;omega)];simp;omega
  ·split at h
   ·cases h
   ·rename_i x r1 e1
    cases h;obtain⟨t1,rfl,rfl,f3⟩:=locR_ok e1;exact⟨by unfold thingB;simp[f3],by simp⟩
def Good1(arch:Int)(l:List Tok)(p:PR Nd):Prop:= ∀x r,p= .ok (x,r)->OkN arch x/\r.length<l.length
theorem atomR_ok(arch:Int)(l:List Tok):Good1 arch l (atomR arch l):=by
 intro x r h;unfold atomR at h
 split at h
 ·cases h
 ·rename_i t r1 e1
  split at h
  ·cases h
  ·rename_i r2 e2
   split at h
   ·cases h
   ·rename_i v r3 e3
    cases h;obtain⟨a1,a2⟩:=thingR_ok e1;obtain⟨t2,rfl,g2⟩:=takeR_ok e2;obtain⟨t3,rfl,g3,g4,g5⟩:=intR_ok e3;refine⟨⟨_,?_,fun y hy=>absurd hy (by simp[Nd.kids])⟩,by simp only[List.length_cons]at a2;omega⟩;unfold mayN;simp only[Nd.kind,Nd.th,Nd.val,Nd.kids,if_true,a1,(numR_iff.1 g3).2];rfl
theorem ndK_ok{arch k:Int}{l:List Nd}(h:mayN arch k zTh 0 l.length=true)(hk: ∀y∈l,OkN arch y):OkN arch (ndK k l):=⟨_,h,hk⟩
theorem oneR_ok{arch k:Int}{l:List Nd}(h4:k=4\/k=5)(h0:l≠[])(hk: ∀y∈l,OkN arch y):OkN arch (oneR k l):=by
 match l,h0 with
 |[x],_=>exact hk x (by simp)
 | x::y::r,_=>
   refine ndK_ok ?_ hk;unfold mayN;rw[if_neg (by omega),if_neg (by omega),if_neg (by omega),if_pos h4];simp
theorem rowF_ok{arch k:Int}{sign:Tx}{one:List Tok->PR Nd}(h4:k=4\/k=5)(H: ∀l,Good1 arch l (one l)): ∀(n:Nat) (acc:List Nd) (l:List Tok) (x:Nd) (r:List Tok),acc≠[]->(∀y∈acc,OkN arch y)->rowF k sign one n acc l= .ok (x,r)->OkN arch x/\r.length<=l.length
 |0,acc,l,x,r,h0,hk,h=>by cases h;exact⟨oneR_ok h4 h0 hk,Nat.le_refl _⟩
 | n+1,acc,l,x,r,h0,hk,h=>by
   unfold rowF at h
   split at h
   ·split at h
    ·cases h
    ·rename_i y r1 e1
     obtain⟨a1,a2⟩:=H _ y r1 e1
     obtain⟨b1,b2⟩:=rowF_ok h4 H n _ r1 x r (by simp) (fun z hz=>by
      rcases List.mem_append.1 hz with hz|hz
      ·exact hk z hz
      ·rcases List.mem_singleton.1 hz with rfl;exact a1) h
     refine⟨b1,?_⟩;rw[List.length_tail]at a2;omega
   ·cases h;exact⟨oneR_ok h4 h0 hk,Nat.le_refl _⟩
theorem rowR_ok{arch k:Int}{sign:Tx}{one:List Tok->PR Nd}(h4:k=4\/k=5)(H: ∀l,Good1 arch l (one l))(l:List Tok):Good1 arch l (rowR k sign one l):=by
 intro x r h;unfold rowR at h
 split at h
 ·cases h
 ·rename_i y r1 e1
  obtain⟨a1,a2⟩:=H _ y r1 e1;obtain⟨b1,b2⟩:=rowF_ok h4 H _ _ _ x r (by simp) (fun z hz=>by rcases List.mem_singleton.1 hz with rfl;exact a1) h;exact⟨b1,by omega⟩
theorem orR_ok{arch:Int}{one:List Tok->PR Nd}(H: ∀l,Good1 arch l (one l))(l:List Tok):Good1 arch l (orR one l):=rowR_ok (.inr rfl) (fun l=>rowR_ok (.inl rfl) H l) l
theorem notR_ok(arch:Int): ∀(n:Nat) (l:List Tok),Good1 arch l (notR arch n l)
 |0,l=>fun x r h=>by cases h
 | n+1,l=>fun x r h=>by
   unfold notR at h
   split at h
   ·split at h
    ·cases h
    ·rename_i y r1 e1
     obtain⟨a1,a2⟩:=notR_ok arch n _ y r1 e1;cases h;refine⟨ndK_ok (by unfold mayN;rw[if_neg (by decide),if_neg (by decide),if_pos rfl];simp) (fun z hz=>by rcases List.mem_singleton.1 hz with rfl;exact a1),?_⟩;rw[List.length_tail]at a2;omega
   ·split at h
    ·split at h
     ·cases h
     ·rename_i y r1 e1
      obtain⟨a1,a2⟩:=orR_ok (notR_ok arch n) _ y r1 e1
      split at h
      ·cases h
      ·rename_i r2 e2
       cases h;obtain⟨t2,rfl,g2⟩:=takeR_ok e2;refine⟨a1,?_⟩;simp only[List.length_tail,List.length_cons]at a2;omega
    ·split at h
     ·rename_i hh
      cases h;refine⟨ndK_ok (by unfold mayN;rw[if_neg (by decide),if_pos rfl];simp) (fun z hz=>by cases hz),?_⟩;cases l with
      |nil=>exact absurd hh.1 (by decide)
      |cons a b=>simp
     ·exact atomR_ok arch l x r h
theorem condHead_ok{l r:List Tok}{q:Int}(h:condHead l= .ok (q,r)):1<=q/\q<=3:=by
 unfold condHead at h
 split at h
 ·cases h;omega
 ·split at h
  ·split at h
   ·cases h
   ·cases h;omega
  ·split at h
   ·cases h
   ·cases h;omega
theorem condR_ok{arch:Int}{l:List Tok}{q:Int}{x:Nd}(h:condR arch l= .ok (q,x)):1<=q/\q<=3/\OkN arch x:=by
 unfold condR at h
 split at h
 ·cases h
 ·rename_i q1 l1 e1
  split at h
  ·cases h
  ·rename_i l2 e2
   split at h
   ·cases h
   ·rename_i y l3 e3
    split at h
    ·cases h
    ·split at h
     ·cases h
      obtain⟨a,b⟩:=condHead_ok e1;exact⟨a,b,(orR_ok (notR_ok arch _) _ _ _ e3).1⟩
     ·cases h
theorem walk_two{arch:Int}: ∀(x:Nd) (met deep:Nat),OkN arch x->(walkN arch x met deep).2=0\/(walkN arch x met deep).2=2:=by
 intro x
 induction x using Nd.ind with
 | h x ih=>
   intro met deep h;rw[walkN_eq];split
   ·exact .inr rfl
   ·rw[if_neg (by rw[h.may];decide)]
    have key: ∀(l:List Nd),(∀k∈l,k∈x.kids)-> ∀met deep,(walkL arch l met deep).2=0\/(walkL arch l met deep).2=2:=by
     intro l
     induction l with
     |nil=>intro _ met deep;rw[walkL_nil];exact .inl rfl
     | cons y r ihl=>
       intro hin met deep;rw[walkL_cons];split
       ·exact ihl (fun k hk=>hin k (by simp[hk])) _ _
       ·exact ih y (hin y (by simp)) met deep (h.kid y (hin y (by simp)))
    exact key _ (fun k hk=>hk) _ _
theorem cond_two{arch q:Int}{x:Nd}(ha:archB arch=true)(h1:1<=q)(h3:q<=3)(h:OkN arch x):condE arch q x=0\/condE arch q x=2:=by
 unfold condE;rw[if_neg (by rw[ha];decide),if_neg (by omega)];exact walk_two x 0 0 h
def stopAt(N:Nat)(e:List Tok):Nat:=(e.head?.map (·.2)).getD N
theorem parseC_cases{arch:Int}{s:Tx}(ha:archB arch=true)(hl:s.length<=262144):(∃q x,condR arch (lex 0 s)= .ok (q,x)/\OkN arch x/\1<=q/\q<=3/\((condE arch q x=0/\parseC arch s= .ok (q,x))\/(condE arch q x=2/\parseC arch s= .error (2,0))))\/ ∃e,condR arch (lex 0 s)= .error e/\parseC arch s= .error (80,stopAt s.length e):=by
 unfold parseC;rw[if_neg (by rw[ha];decide),if_neg (by omega)];cases h:condR arch (lex 0 s)with
 |error e=>exact .inr ⟨e,rfl,rfl⟩
 | ok p=>
   obtain⟨q,x⟩:=p;obtain⟨a,b,c⟩:=condR_ok h;refine .inl ⟨q,x,rfl,c,a,b,?_⟩;rcases cond_two ha a b c with e|e
   ·exact .inl ⟨e,by simp only[e];rfl⟩
   ·exact .inr ⟨e,by simp only[e];rfl⟩
def shP(d:Nat)(L:List Tok):List Tok:=L.map fun t=>(t.1,t.2+d)
def mapR{α:Type}(d:Nat):PR α->PR α
 | .ok (x,r)=>.ok (x,shP d r)
 | .error e=>.error (shP d e)
theorem sh_cons(d:Nat)(t:Tok)(l:List Tok):shP d (t::l)=(t.1,t.2+d)::shP d l:=rfl
theorem sh_tail(d:Nat)(l:List Tok):(shP d l).tail=shP d l.tail:=by cases l<;>rfl
theorem sh_head(d:Nat)(l:List Tok):headS (shP d l)=headS l:=by cases l<;>rfl
theorem sh_len(d:Nat)(l:List Tok):(shP d l).length=l.length:=by simp[shP]
theorem lexF_shift(d:Nat): ∀(n p:Nat) (s:Tx),lexF n (p+d) s=shP d (lexF n p s)
 |0,_,_=>rfl
 |n+1,_,[]=>rfl
 | n+1,p,c::r=>by
   show(if blankC c then lexF n (p+d+1) r else _::lexF n _ _)=shP d (if blankC c then lexF n (p+1) r else _::lexF n _ _);split
   ·rw[show p+d+1=(p+1)+d by omega,lexF_shift d n _ r]
   ·rw[show p+d+longT (c::r)=(p+longT (c::r))+d by omega,lexF_shift d n _ _];rfl
theorem lex_shift(d p:Nat)(s:Tx):lex (p+d) s=shP d (lex p s):=lexF_shift d _ _ _
theorem lex_blanks: ∀(b:Tx) (p:Nat) (s:Tx),(∀c∈b,blankC c=true)->lex p (b++s)=lex (p+b.length) s
 |[],p,s,_=>rfl
 | c::b,p,s,h=>by
   rw[List.cons_append,lex_blank p _ (h c (by simp)),lex_blanks b (p+1) s (fun d hd=>h d (by simp[hd]))]
   congr 1;simp;omega
theorem takeR_sh(d:Nat)(s:Tx)(l:List Tok):takeR s (shP d l)=match takeR s l with
 | .ok r=>.ok (shP d r)
 | .error e=>.error (shP d e):=by
 cases l with
 |nil=>rfl
 |cons t l=>rw[sh_cons];rw[takeR_cons,takeR_cons];split<;>rfl
theorem intR_sh(d:Nat)(a b:Int)(l:List Tok):intR a b (shP d l)=mapR d (intR a b l):=by
 cases l with
 |nil=>rfl
 | cons t l=>
   rw[sh_cons,intR_cons,intR_cons];simp only;cases numR t.1 with
   |none=>rfl
   |some n=>simp only;split<;>rfl
theorem locR_sh(d:Nat)(l:List Tok):locR (shP d l)=mapR d (locR l):=by
 cases l with
 |nil=>rfl
 |cons t l=>rw[sh_cons];rw[locR_cons,locR_cons];split<;>rfl
theorem thingR_sh(arch:Int)(d:Nat)(l:List Tok):thingR arch (shP d l)=mapR d (thingR arch l):=by
 unfold thingR;rw[sh_head,sh_tail];split
 ·rw[locR_sh]
  cases locR l.tail with
  |error e=>rfl
  | ok p=>
    obtain⟨x,r⟩:=p;simp only[mapR];rw[takeR_sh];cases takeR [93] r<;>rfl
 ·split
  ·rw[intR_sh]
   cases intR 0 15 l with
   |error e=>rfl
   | ok p=>
     obtain⟨x,r⟩:=p;simp only[mapR];rw[takeR_sh];cases takeR [58] r with
     |error e=>rfl
     | ok r=>
       simp only;rw[sh_head];cases regOfA arch (headS r)with
       |none=>rfl
       |some k=>simp only[sh_tail]
  ·rw[locR_sh]
   cases locR l with
   |error e=>rfl
   |ok p=>rfl
theorem atomR_sh(arch:Int)(d:Nat)(l:List Tok):atomR arch (shP d l)=mapR d (atomR arch l):=by
 unfold atomR;rw[thingR_sh];cases thingR arch l with
 |error e=>rfl
 | ok p=>
   obtain⟨x,r⟩:=p;simp only[mapR];rw[takeR_sh];cases takeR [61] r with
   |error e=>rfl
   | ok r=>
     simp only;rw[intR_sh];cases intR (-2147483648) 2147483647 r<;>rfl
theorem rowF_sh{k:Int}{sign:Tx}{one:List Tok->PR Nd}(d:Nat)(H: ∀l,one (shP d l)=mapR d (one l)): ∀(n:Nat) (acc:List Nd) (l:List Tok),rowF k sign one n acc (shP d l)=mapR d (rowF k sign one n acc l)
 |0,_,_=>rfl
 | n+1,acc,l=>by
   unfold rowF;rw[sh_head,sh_tail];split
   ·rw[H]
    cases one l.tail with
    |error e=>rfl
    |ok p=>exact rowF_sh d H n _ _
   ·rfl
theorem rowR_sh{k:Int}{sign:Tx}{one:List Tok->PR Nd}(d:Nat)(H: ∀l,one (shP d l)=mapR d (one l))(l:List Tok):rowR k sign one (shP d l)=mapR d (rowR k sign one l):=by
 unfold rowR;rw[H];cases one l with
 |error e=>rfl
 | ok p=>
   obtain⟨x,r⟩:=p;simp only[mapR];rw[sh_len];exact rowF_sh d H _ _ _
theorem orR_sh{one:List Tok->PR Nd}(d:Nat)(H: ∀l,one (shP d l)=mapR d (one l))(l:List Tok):orR one (shP d l)=mapR d (orR one l):=rowR_sh d (rowR_sh d H) l
theorem notR_sh(arch:Int)(d:Nat): ∀(n:Nat) (l:List Tok),notR arch n (shP d l)=mapR d (notR arch n l)
 |0,_=>rfl
 | n+1,l=>by
   unfold notR;simp only[sh_head,sh_tail];split
   ·rw[notR_sh arch d n]
    cases notR arch n l.tail<;>rfl
   ·split
    ·rw[orR_sh d (notR_sh arch d n)]
     cases orR (notR arch n) l.tail with
     |error e=>rfl
     | ok p=>
       obtain⟨x,r⟩:=p;simp only[mapR];rw[takeR_sh];cases takeR [41] r<;>rfl
    ·split
     ·rfl
     ·exact atomR_sh arch d l
theorem condHead_sh(d:Nat)(l:List Tok):condHead (shP d l)=mapR d (condHead l):=by
 unfold condHead;rw[sh_head,sh_tail,takeR_sh,takeR_sh];split
 ·rfl
 ·split
  ·cases takeR [101,120,105,115,116,115] l.tail<;>rfl
  ·cases takeR [101,120,105,115,116,115] l<;>rfl
theorem condR_sh(arch:Int)(d:Nat)(l:List Tok):condR arch (shP d l)=match condR arch l with
 | .ok p=>.ok p
 | .error e=>.error (shP d e):=by
 unfold condR;rw[condHead_sh];cases condHead l with
 |error e=>rfl
 | ok p=>
   obtain⟨q,l⟩:=p;simp only[mapR];rw[takeR_sh];cases takeR [40] l with
   |error e=>rfl
   | ok l=>
     simp only;rw[sh_len,orR_sh d (notR_sh arch d _)];cases orR (notR arch (l.length+1)) l with
     |error e=>rfl
     | ok p=>
       obtain⟨x,l⟩:=p;simp only[mapR];rw[takeR_sh];cases takeR [41] l with
       |error e=>rfl
       | ok l=>
         cases l with
         |nil=>rfl
         |cons t l=>rfl
theorem stop_sh(d N:Nat)(e:List Tok):stopAt (d+N) (shP d e)=d+stopAt N e:=by
 cases e with
 |nil=>rfl
 |cons t l=>show t.2+d=d+t.2;omega
theorem parseC_blanks{arch:Int}{b s:Tx}(ha:archB arch=true)(hb: ∀c∈b,blankC c=true)(hl:b.length+s.length<=262144):
 parseC arch (b++s)=match parseC arch s with
  | .ok c=>.ok c
  | .error (e,k)=>.error (e,if e=2 then 0 else b.length+k):=by
 have e1:condR arch (lex 0 (b++s))=match condR arch (lex 0 s)with
  | .ok p=>.ok p
  | .error e=>.error (shP b.length e):=by
  rw[lex_blanks b 0 s hb,lex_shift,condR_sh]
 rcases parseC_cases (s:=b++s) ha (by simpa using hl)with⟨q,x,h1,-, -, -, h2⟩|⟨e,h1,h2⟩<;>rcases parseC_cases (s:=s) ha (by omega)with⟨q',x',g1,-, -, -, g2⟩|⟨e',g1,g2⟩<;>rw[h1,g1]at e1
 ·cases e1
  rcases h2 with⟨a1,a2⟩|⟨a1,a2⟩<;>rcases g2 with⟨b1,b2⟩|⟨b1,b2⟩
  ·rw[a2,b2]
  ·rw[a1]at b1;cases b1
  ·rw[a1]at b1;cases b1
  ·rw[a2,b2];rfl
 ·cases e1
 ·cases e1
 ·cases e1
  rw[h2,g2,List.length_append,stop_sh];rfl
end Go.Proofs.YtkbbgjloifmmbaaGreatDoor
namespace Go.Proofs.YtkbbgjloifmmbaaGreatDoor
open Go.RowKit
attribute [local go_sem high] eqTh neqTh
theorem bel_drewN{w w':World}(h:Below w.heap.size w w')(n:Nat):Below w.heap.size w (w'.drewN n):=h.trans ((below_drewN w' n).mono h.size)
theorem blN{n:Nat}{w w':World}(h:Below n w w':=by repeat(first|with_reducible assumption|with_reducible exact Below.refl _ _|with_reducible refine bel_alloc ?_ _|with_reducible refine bel_drew ?_|with_reducible refine bel_drewN ?_ _|with_reducible refine bel_set ?_ (by dsimp only;omega) _)):Below n w w':=h
theorem regsN_bd(arch:Int):15<=regsN arch/\regsN arch<=32:=by unfold regsN;split<;>omega
abbrev mkTh(t:Th):Obj:=.cells #[.int .i64 t.thread,.int .i64 t.reg,.string (tx t.loc)] 25
theorem condKnown(arch:Int)(w:World):Calls Tryz.prog 142 #[.int .i64 arch] w fun e w'=>e= .returned (.bool (archB arch))/\w=w':=by
 by_cases h1:arch=1
 ·subst h1
  go_enter Tryz.func142,Tryz.ntmps142
  go_wp2
  go_ret;exact⟨rfl,rfl⟩
 ·have z1:(arch==1)=false:=by simpa using h1
  have e:archB arch=(arch==2):=by unfold archB;rw[decide_eq_false h1,Bool.false_or];rw[Bool.eq_iff_iff];simp
  have E:=hid e;clear e h1;go_enter Tryz.func142,Tryz.ntmps142
  go_wp2
  go_ret;exact⟨ret_bool E.out.symm,rfl⟩
theorem r08Known(arch:Int)(w:World):Calls Tryz.prog 45 #[.int .i64 arch] w fun e w'=>e= .returned (.bool (archB arch))/\w=w':=by
 by_cases h1:arch=1
 ·subst h1
  go_enter Tryz.func45,Tryz.ntmps45
  go_wp2
  go_ret;exact⟨rfl,rfl⟩
 ·have z1:(arch==1)=false:=by simpa using h1
  have e:archB arch=(arch==2):=by unfold archB;rw[decide_eq_false h1,Bool.false_or];rw[Bool.eq_iff_iff];simp
  have E:=hid e;clear e h1;go_enter Tryz.func45,Tryz.ntmps45
  go_wp2
  go_ret;exact⟨ret_bool E.out.symm,rfl⟩
theorem fileKnown(arch:Int)(w:World):Calls Tryz.prog 66 #[.int .i64 arch] w fun e w'=>e= .returned (.bool (archB arch))/\w=w':=by
 by_cases h1:arch=1
 ·subst h1
  go_enter Tryz.func66,Tryz.ntmps66
  go_wp2
  go_ret;exact⟨rfl,rfl⟩
 ·have z1:(arch==1)=false:=by simpa using h1
  have e:archB arch=(arch==2):=by unfold archB;rw[decide_eq_false h1,Bool.false_or];rw[Bool.eq_iff_iff];simp
  have E:=hid e;clear e h1;go_enter Tryz.func66,Tryz.ntmps66
  go_wp2
  go_ret;exact⟨ret_bool E.out.symm,rfl⟩
theorem condRegs(arch:Int)(w:World):Calls Tryz.prog 323 #[.int .i64 arch] w fun e w'=>e= .returned (.int .i64 (regsN arch))/\w=w':=by
 by_cases h1:arch=1
 ·subst h1
  go_enter Tryz.func323,Tryz.ntmps323
  go_wp2
  go_ret;exact⟨rfl,rfl⟩
 ·have z1:(arch==1)=false:=by simpa using h1
  have E:=hid (show regsN arch=32 by unfold regsN;rw[if_neg h1]);clear h1;go_enter Tryz.func323,Tryz.ntmps323
  go_wp2
  go_ret;exact⟨ret_int E.out.symm,rfl⟩
theorem r08Regs(arch:Int)(w:World):Calls Tryz.prog 202 #[.int .i64 arch] w fun e w'=>e= .returned (.int .i64 (regsN arch))/\w=w':=by
 by_cases h1:arch=1
 ·subst h1
  go_enter Tryz.func202,Tryz.ntmps202
  go_wp2
  go_ret;exact⟨rfl,rfl⟩
 ·have z1:(arch==1)=false:=by simpa using h1
  have E:=hid (show regsN arch=32 by unfold regsN;rw[if_neg h1]);clear h1;go_enter Tryz.func202,Tryz.ntmps202
  go_wp2
  go_ret;exact⟨ret_int E.out.symm,rfl⟩
theorem condThing(arch:Int)(t:Th)(hl:t.loc.length<=9223372036854775807)(w:World):Calls Tryz.prog 278 #[.int .i64 arch,vTh t] w (Ret w (.bool (thingB arch t))):=by
 obtain⟨th,rg,loc⟩:=t;have B:=al w (mkTh ⟨th,rg,loc⟩);have hR:=regsN_bd arch
 by_cases h1:th= -1
 ·subst h1
  by_cases h2:rg=0
  ·subst h2
   have E:=hid (show thingB arch ⟨-1,0,loc⟩=nameB loc by simp[thingB]);go_enter Tryz.func278,Tryz.ntmps278
   go_wp2_with (go_at_call 322;refine(condNamed loc hl _).mono ?_;rintro e w' ⟨rfl,rfl⟩)
   go_ret;exact⟨ret_bool E.out.symm,blN⟩
  ·have E:=hid (show thingB arch ⟨-1,rg,loc⟩=false by simp[thingB,h2])
   have z2:(rg==0)=false:=by simpa using h2
   clear h2;go_enter Tryz.func278,Tryz.ntmps278;go_wp2_with fail;go_ret;exact⟨ret_bool E.out.symm,blN⟩
 ·have z1:(th== -1)=false:=by simpa using h1
  have hT:thingB arch ⟨th,rg,loc⟩=(decide (0<=th)&&decide (th<16)&&decide (0<=rg)&&decide (rg<regsN arch)&&decide (loc=[])):=by unfold thingB;simp only;rw[if_neg h1]
  obtain⟨R,hRR⟩: ∃R,regsN arch=R:=⟨_,rfl⟩;have RG:=hid (show ∀w,Calls Tryz.prog 323 #[.int .i64 arch] w fun e w'=>e= .returned (.int .i64 R)/\w'=w from fun w=>(condRegs arch w).mono fun e w' hh=>⟨by rw[hh.1,hRR],hh.2.symm⟩);rw[hRR]at hT hR;clear hRR h1
  by_cases cd1:th<0
  ·have d1:decide (0<=th)=false:=decide_eq_false (by omega)
   have nd1: ¬(0<=th):=by omega
   have E:=hid (show thingB arch ⟨th,rg,loc⟩=false by rw[hT];simp[*]);clear hT;go_enter Tryz.func278,Tryz.ntmps278;go_wp2_with fail
   go_quiet ((go_at_call 323;exact Calls.quiet_of_same (RG.out _)))
   go_wp2_with fail;go_ret;exact⟨ret_bool E.out.symm,blN⟩
  have d1:decide (0<=th)=true:=decide_eq_true (by omega);have pd1:0<=th:=by omega
  by_cases cd2:16<=th
  ·have d2:decide (th<16)=false:=decide_eq_false (by omega)
   have nd2: ¬(th<16):=by omega
   have E:=hid (show thingB arch ⟨th,rg,loc⟩=false by rw[hT];simp[*]);clear hT;go_enter Tryz.func278,Tryz.ntmps278;go_wp2_with fail
   go_quiet ((go_at_call 323;exact Calls.quiet_of_same (RG.out _)))
   go_wp2_with fail;go_ret;exact⟨ret_bool E.out.symm,blN⟩
  have d2:decide (th<16)=true:=decide_eq_true (by omega);have pd2:th<16:=by omega
  by_cases cd3:rg<0
  ·have d3:decide (0<=rg)=false:=decide_eq_false (by omega)
   have nd3: ¬(0<=rg):=by omega
   have E:=hid (show thingB arch ⟨th,rg,loc⟩=false by rw[hT];simp[*]);clear hT;go_enter Tryz.func278,Tryz.ntmps278;go_wp2_with fail
   go_quiet ((go_at_call 323;exact Calls.quiet_of_same (RG.out _)))
   go_wp2_with fail;go_ret;exact⟨ret_bool E.out.symm,blN⟩
  have d3:decide (0<=rg)=true:=decide_eq_true (by omega);have pd3:0<=rg:=by omega
  by_cases cd4:R<=rg
  ·have d4:decide (rg<R)=false:=decide_eq_false (by omega)
   have nd4: ¬(rg<R):=by omega
   have E:=hid (show thingB arch ⟨th,rg,loc⟩=false by rw[hT];simp[*]);clear hT;go_enter Tryz.func278,Tryz.ntmps278;go_wp2_with fail
   go_quiet ((go_at_call 323;exact Calls.quiet_of_same (RG.out _)))
   go_wp2_with fail;go_ret;exact⟨ret_bool E.out.symm,blN⟩
  have d4:decide (rg<R)=true:=decide_eq_true (by omega);have pd4:rg<R:=by omega
  by_cases hl0:loc=[]
  ·subst hl0
   have z5:((tx []).toList==([]:List UInt8))=true:=by rw[tx_toList];rfl
   have E:=hid (show thingB arch ⟨th,rg,[]⟩=true by rw[hT];simp[*]);clear hT;go_enter Tryz.func278,Tryz.ntmps278;go_wp2_with fail
   go_quiet ((go_at_call 323;exact Calls.quiet_of_same (RG.out _)))
   go_wp2_with fail;go_ret;exact⟨ret_bool E.out.symm,blN⟩
  ·have z5:((tx loc).toList==([]:List UInt8))=false:=by rw[tx_toList];simpa using hl0
   have z6:(tx loc).toList.isEmpty=false:=by rw[tx_toList];cases loc<;>simp at*
   have E:=hid (show thingB arch ⟨th,rg,loc⟩=false by rw[hT];simp[*]);clear hT;go_enter Tryz.func278,Tryz.ntmps278;go_wp2_with fail
   go_quiet ((go_at_call 323;exact Calls.quiet_of_same (RG.out _)))
   go_wp2_with fail;go_ret;exact⟨ret_bool E.out.symm,blN⟩
end Go.Proofs.YtkbbgjloifmmbaaGreatDoor
