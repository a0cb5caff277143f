/- What ReadPiecesP leans on, part 17. -/
import Derived.Test.YtkbbgjloifmmbaaGreatDoorRp16
set_option linter.unusedVariables false
set_option maxRecDepth 100000
set_option maxHeartbeats 6400000
namespace Go.Proofs.YtkbbgjloifmmbaaGreatDoor
open Go.RowKit Go.Sort
theorem wp_scope_rounds'{P:Program}{a:Act}{w:World}{Q:Exit->Act->World->Prop}{c X:Code}(l:Nat)(J:Act->World->Prop)(μ:Act->World->Nat)(hf:findLabel c l=some (.seq .skip X))
 (first:(∀a w,J a w->X.wp P (Exit.jump l J Q) a w)->c.wp P (Exit.jump l J Q) a w)
 (pass: ∀a w,J a w->X.wp P (Exit.jump l (fun a' w'=>J a' w'/\μ a' w'<μ a w) Q) a w):(Code.scope c).wp P Q a w:=by
 refine wp_scope_jumps l J μ hf (first fun a w h=>wp_mono (pass a w h) ?_) fun a w h=>wp_seq (wp_skip (pass a w h))
 intro e a w h;cases e<;>simp only[Exit.jump]at h⊢
 case goto l'=>exact⟨h.1,h.2.1⟩
 all_goals exact h
theorem line_trim{u b:Tx}{c:UInt8}(hu:u.head?=some c)(hc:blankC c=false)(hb: ∀c∈b,blankC c=true):trimT (b++u.takeWhile (· != 10))=lineL u/\Tr (lineL u)/\(lineL u).head?=some c:=by
 cases u with
 |nil=>cases hu
 | cons d r=>
   obtain rfl:d=c:=by simpa using hu
   have h10:(d != 10)=true:=by
    rw[bne_iff_ne];rintro rfl;revert hc;decide
   have e2:rdr (d::r.takeWhile (· != 10))=d::rdr (r.takeWhile (· != 10)):=by
    have:=trimT_mid [] (r.takeWhile (· != 10)) d hc;rw[trimT_rdr,List.nil_append]at this
    have e3: ∃m,rdr (d::r.takeWhile (· != 10))=d::m:=by
     unfold rdr;rw[List.reverse_cons,dw_stop _ _ hc,List.reverse_append];exact⟨_,rfl⟩
    obtain⟨m,em⟩:=e3;rw[em,List.dropWhile_cons_of_neg (by rw[hc];decide)]at this;rw[em];exact this
   have e1:lineL (d::r)=d::rdr (r.takeWhile (· != 10)):=by
    unfold lineL;rw[List.takeWhile_cons_of_pos (p:=fun x=>x != 10) h10,e2]
   have ht:trimT (b++(d::r).takeWhile (· != 10))=lineL (d::r):=by
    rw[List.takeWhile_cons_of_pos (p:=fun x=>x != 10) h10,trimT_mid b _ d hc,e1]
    have:b.dropWhile blankC=[]:=by
     have:=List.dropWhile_append_of_pos (p:=blankC) (l₂:=[]) hb;simpa using this
    rw[this];rfl
   refine⟨ht,?_,by rw[e1];rfl⟩;rw[<-ht];exact Tr.trim _
theorem next_at{s:Tx}{k m:Nat}(hk:k<=s.length)(hm:((s.drop k).takeWhile (· != 10)).length=m):s.drop (min (k+m+1) s.length)=restL (s.drop k)/\min (k+m+1) s.length=s.length-(restL (s.drop k)).length:=by
 have e:=restL_drop (s.drop k);rw[hm,List.drop_drop]at e;have hl:=congrArg List.length e;rw[List.length_drop]at hl;refine⟨?_,by omega⟩;rw[e];rcases Nat.le_total (k+m+1) s.length with h|h
 ·rw[Nat.min_eq_left h];congr 1
 ·rw[Nat.min_eq_right h,List.drop_eq_nil_of_le (Nat.le_refl _),List.drop_eq_nil_of_le (by omega)]
theorem sgnL_none{r:Tx}(h: ∀c∈r,blankC c=true):sgnL r=[]:=by
 have:=List.dropWhile_append_of_pos (p:=blankC) (l₂:=[]) h;simpa[sgnL]using this
theorem trim_none'(p:Tx):trimT p=[]<-> ∀c∈p,blankC c=true:=by
 constructor
 ·intro h
  have:lexT p=[]:=by rw[<-lexT_trim,h,lexT_nil]
  exact lexT_empty this
 ·intro h
  have h2:lexT p=[]:=by
   have:=lexT_pad _ [] p (Nat.le_refl _) h;simpa[lexT_nil]using this
  cases e:trimT p with
  |nil=>rfl
  | cons c r=>
    have h3:c∈trimT p:=by rw[e];simp
    have h4:blankC c=false:=trimT_head c (by rw[e];rfl);rw[h c (trimT_mem h3)]at h4;cases h4
theorem tw_none'{c:UInt8}{r:Tx}(h:c∉r):r.takeWhile (· != c)=r:=by
 have k: ∀x∈r,(x != c)=true:=fun x hx=>by
  rw[bne_iff_ne];rintro rfl;exact h hx
 have:=List.takeWhile_append_of_pos (p:=(· != c)) (l₂:=[]) k;simpa using this
theorem hb2'{tw b f:Tx}(h:tw=b++sgnL tw)(hf:sgnL tw=f):tw=b++f:=by rw[<-hf];exact h
def lfP(rb k:Nat)(v:Nat->Value):Act:={ tmps:=#[.pointer (some ⟨rb,0,none⟩),undef,.string ⟨#[]⟩,.int .i64 0,.int .i64 0,.bool false,.int .i64 k,v 7,v 8,v 9,v 10,v 11,v 12,v 13,v 14,v 15,v 16,v 17,v 18,v 19,v 20,v 21,v 22,v 23,v 24,v 25,v 26,v 27,v 28,v 29,v 30,v 31,v 32,v 33,v 34,v 35,v 36,v 37,v 38,v 39,v 40,v 41,v 42,v 43,v 44,v 45,v 46,v 47,v 48,v 49,v 50,v 51,v 52,v 53,v 54,v 55,v 56,v 57,v 58,v 59,v 60,v 61,v 62,v 63,v 64,v 65,v 66,v 67,v 68,v 69,v 70,v 71,v 72,v 73,v 74,v 75,v 76,v 77,v 78],defers:=[] }
theorem run_strfrom2(l:Tx)(a:Nat)(h:a<=l.length): ∀w,(Instr.sliceAt 9 (.string (tx l)) (some (.int .i64 a)) none none).run Tryz.prog w= .ok (.string (tx (l.drop a))) w:=run_strfrom l a h
theorem readPeek(s:Tx)(rb k0:Nat)(hk0:k0<=s.length)(hl:s.length<=262144)(w:World)(c0:w.cell? ⟨rb,0,none⟩=some (.string (tx s)))(c1:w.cell? ⟨rb,1,none⟩=some (.int .i64 k0)):
 Calls Tryz.prog 74 #[.pointer (some ⟨rb,0,none⟩)] w (fun e w'=>PeekV s.length (s.drop k0) e/\Below w.heap.size w w'):=by
 obtain⟨u,hu⟩: ∃u,sgnL (s.drop k0)=u:=⟨_,rfl⟩;have HU:=hid hu;have hrb:=cell?_lt c0;simp only at hrb;obtain⟨n,hn⟩: ∃n,(tx s).size=n:=⟨_,rfl⟩;have hns:n=s.length:=by rw[<-hn,tx_size]
 have HK:=hid hk0;have HN:=hid hns;have HL:=hid hl;have hn1:n<=262144:=by omega
 have hk1:k0<=n:=by omega
 clear hu hk0 hns hl;go_enter Tryz.func74,Tryz.ntmps74;go_wp2_with fail;refine wp_scope_rounds' 0 (fun a' w'=>Below w.heap.size w w'/\ ∃k:Nat,k<=n/\k0<=k/\a'=lfP rb k (fun i=>a'.tmps.getD i undef)/\Hid (sgnL (s.drop k)=u)) (fun a' _=>n-(intOf (a'.tmps.getD 6 undef)).toNat) rfl ?_ ?_
 ·intro hrest
  have HRS:=hid hrest;clear hrest
  go_wp2
  go_step3
  rename_i hK;refine hK _ _ (HRS.out _ _ ?_);exact⟨Below.refl _ _,k0,hk1,Nat.le_refl _,rfl,HU⟩
 ·rintro a' w' ⟨E,k,hk,hk00,ha,hat⟩
  generalize (fun k=>a'.tmps.getD k undef)=v at ha;subst ha;unfold lfP;have d0:=(E.cell hrb).trans c0;have hks:k<=s.length:=by have:=HN.out;omega
  have HE:=hid E
  by_cases hkn:k<n
  ·obtain⟨m,hm⟩: ∃m,((s.drop k).takeWhile (· != 10)).length=m:=⟨_,rfl⟩
   have zk:decide ((n:Int)<=(k:Int))=false:=by simp;omega
   have sl:=run_strfrom2 s k hks;have IB:=hid (fun w=>indexByte_w (s.drop k) 10 w);obtain⟨i1,i2⟩:=indexByte_tw 10 (s.drop k);obtain⟨x1,x2⟩:=line_split (s.drop k);obtain⟨y1,y2⟩:=next_at hks hm
   have hml:k+m<=s.length:=by
    have:=takeWhile_le (· != 10) (s.drop k);rw[hm,List.length_drop]at this;omega
   have hno:(10:UInt8)∉s.drop k->k+m=s.length:=fun h=>by
    rw[<-hm,tw_none' h,List.length_drop];omega
   have etw:(s.take (k+m)).drop k=(s.drop k).takeWhile (· != 10):=by
    rw[List.drop_take,show k+m-k=m by omega,<-hm];exact(List.prefix_iff_eq_take.1 (List.takeWhile_prefix _)).symm
   have sl2:=run_strsl s k (k+m) (by omega) hml;rw[etw]at sl2;obtain⟨b,hb1,hb2,hb3⟩:=tw_of_split ((s.drop k).takeWhile (· != 10))
   have h10:(10:UInt8)∉b:=fun h=>by
    have h2:(10:UInt8)∈(s.drop k).takeWhile (· != 10):=by rw[hb2];simp[h]
    have:=List.all_eq_true.1 (List.all_takeWhile (p:=(· != 10)) (l:=s.drop k)) 10 h2;simp at this
   have htl:((s.drop k).takeWhile (· != 10)).length<=9223372036854775807:=by rw[hm];have:=HN.out;omega
   have TR:=hid (fun w=>readTrim ((s.drop k).takeWhile (· != 10)) htl w);have LD:=hid (fun w=>readLead ((s.drop k).takeWhile (· != 10)) htl w)
   have hte:trimT ((s.drop k).takeWhile (· != 10))=[]<->sgnL ((s.drop k).takeWhile (· != 10))=[]:=by
    constructor
    ·intro h
     exact sgnL_none ((trim_none' _).1 h)
    ·intro h;exact(trim_none' _).2 (dw_nil h)
   have hld:(s.drop k).length=s.length-k:=List.length_drop;generalize (s.drop k).takeWhile (· != 10)=tw at*;obtain⟨q,hq⟩: ∃q,min (k+m+1) s.length=q:=⟨_,rfl⟩;rw[hq]at y1 y2;have hqn:q<=n:=by have:=HN.out;omega
   have hqk:k<q:=by have:=HN.out;omega
   obtain⟨f,hf⟩: ∃f,sgnL tw=f:=⟨_,rfl⟩;have YES:=hid (show f=[]->sgnL (s.drop q)=u from fun h=>by rw[y1,x1 (by rw[hf];exact h)];exact hat.out)
   have OUT:=hid (show f≠[]->PeekV n (s.drop k0) (.returned (.tuple #[.string (tx tw),.int .i64 ((k:Int)+((m-f.length:Nat):Int)),.int .i64 q,.bool true]))from fun h=>by
    obtain⟨z1,z2,z3,z4⟩:=x2 (by rw[hf];exact h);have hns:=HN.out
    right
    refine⟨b,?_,hb1,h10,?_,?_⟩
    ·rw[HU.out,<-hat.out];exact z1
    ·rw[HU.out,<-hat.out];unfold plc;rw[hf]at z4 hb3
     refine⟨by omega,?_⟩;have hd1:=List.length_drop (i:=k) (l:=s);have hd2:=List.length_drop (i:=k0) (l:=s);omega
    ·rw[HU.out,<-hat.out,z2,hf,z3,<-hb2' hb2 hf]
     have e1:plc n (sgnL (s.drop k))=k+(m-f.length):=by unfold plc;rw[hf,hm]at z4;omega
     have e2:n-(restL (s.drop k)).length=q:=by omega
     rw[e1,e2,Int.natCast_add])
   clear x1 x2 etw hb1 hb2 hb3 h10 hld y1 y2 htl;have hmn:m<=262144:=by have:=HN.out;omega
   have hqn2:(q:Int)=if(n:Int)<(k:Int)+(m:Int)+1 then(n:Int)else(k:Int)+(m:Int)+1:=by have:=HN.out;omega
   have HT:=hid hte
   by_cases hin:(10:UInt8)∈s.drop k
   ·have e8:=i2 hin
    rw[hm]at e8;have IB:=hid (fun w=>e8▸IB.out w);have z8:decide ((0:Int)<=(m:Int))=true:=by simp
    have sl3: ∀w,(Instr.sliceAt 9 (.string (tx s)) (some (.int .i64 k)) (some (.int .i64 ((k:Int)+(m:Int)))) none).run Tryz.prog w= .ok (.string (tx tw)) w:=sl2;have mn: ∀ts ty w,(Builtin.min_ ts ty #[.int .i64 ((k:Int)+(m:Int)+1),.int .i64 n]).run Tryz.prog w= .ok (.int .i64 q) w:=fun ts ty=>run_min ts ty .i64 _ _ _ hqn2
    clear i1 i2 sl2 hno hin e8 hqn2 hte
    by_cases hf0:f=[]
    ·have HY:=hid (YES.out hf0)
     have ht0:=HT.out.2 (by rw[hf];exact hf0);rw[ht0]at TR;have TR:=hid (fun w=>(show Ret w (.string (tx []))=Ret w (.string ⟨#[]⟩)from rfl)▸TR.out w);have HF:=hid hf;clear hf hf0 ht0 HT
     go_wp2_with (first|(go_at_call 78;refine(IB.out _).mono ?_;rintro e w' ⟨rfl,rfl⟩)|fail)
     refine(TR.out _).mono ?_;rintro e w2 ⟨rfl,E2⟩;have HE2:=hid (E.trans (E2.mono E.size));have d0:=(E2.cell (p:=⟨rb,0,none⟩) (by have:=E.size;simp;omega)).trans d0;clear E2;go_wp2_with fail
     go_step3
     refine⟨rfl,⟨HE2.out,q,hqn,by omega,rfl,HY⟩,?_⟩;simp[intOf];omega
    ·have OUT:=hid (OUT.out hf0)
     obtain⟨t,ht⟩: ∃t,trimT tw=t:=⟨_,rfl⟩;have ht0:t≠[]:=fun h=>hf0 (by rw[<-hf];exact HT.out.1 (by rw[ht];exact h))
     rw[ht]at TR;rw[hf,hm]at LD
     have zt:(tx t).toList.isEmpty=false:=by rw[tx_toList];cases t with
      |nil=>exact absurd rfl ht0
      |cons a b=>rfl
     have hfm:(m-f.length:Nat)<=262144:=by omega
     clear hf hf0 HT ht ht0
     go_wp2_with (first|(go_at_call 78;refine(IB.out _).mono ?_;rintro e w' ⟨rfl,rfl⟩)|fail)
     refine(TR.out _).mono ?_;rintro e w2 ⟨rfl,E2⟩;have HE2:=hid (E.trans (E2.mono E.size));have d0:=(E2.cell (p:=⟨rb,0,none⟩) (by have:=E.size;simp;omega)).trans d0;clear E2;have cA:=fun(d:Nat) (os:Array Obj)=>Calls.regrown_of (LD.out (grow (redrawn w2 d) os))
     go_wp2_with fail;have d0:=cell_regrown d0;refine wp_region_quiet_below (by kernel_rfl) (by kernel_rfl) ?_
     repeat(go_big_quiet_step (exact cA _ _))
     refine wpQuiet_nil ?_;intro _ hw';obtain⟨⟨dq,osq⟩,hw''⟩:=hw';subst hw'';have EQ':=below_regrown w2 dq osq;have EZ:=hid (HE2.out.trans (EQ'.mono HE2.out.size));generalize grow (redrawn w2 dq) osq=wq at*;clear d0 EQ' cA;go_wp2_with fail;simp only[Exit.jump];exact bodyPost_ret (by simp[results,Tryz.results74,go_sem];rfl) rfl ⟨by rw[<-HN.out];exact OUT.out,EZ.out⟩
   ·have e8:=i1 hin
    have ekm:=hno hin;have IB:=hid (fun w=>e8▸IB.out w);have sl3: ∀w,(Instr.sliceAt 9 (.string (tx s)) (some (.int .i64 k)) (some (.int .i64 n)) none).run Tryz.prog w= .ok (.string (tx tw)) w:=by have:=HN.out;rw[show((k+m:Nat):Int)=(n:Int) by omega]at sl2;exact sl2
    have mn: ∀ts ty w,(Builtin.min_ ts ty #[.int .i64 ((n:Int)+1),.int .i64 n]).run Tryz.prog w= .ok (.int .i64 q) w:=fun ts ty=>run_min ts ty .i64 _ _ _ (by have:=HN.out;omega)
    clear i1 i2 sl2 hno hin e8 hqn2 hte ekm
    by_cases hf0:f=[]
    ·have HY:=hid (YES.out hf0)
     have ht0:=HT.out.2 (by rw[hf];exact hf0);rw[ht0]at TR;have TR:=hid (fun w=>(show Ret w (.string (tx []))=Ret w (.string ⟨#[]⟩)from rfl)▸TR.out w);have HF:=hid hf;clear hf hf0 ht0 HT
     go_wp2_with (first|(go_at_call 78;refine(IB.out _).mono ?_;rintro e w' ⟨rfl,rfl⟩)|fail)
     refine(TR.out _).mono ?_;rintro e w2 ⟨rfl,E2⟩;have HE2:=hid (E.trans (E2.mono E.size));have d0:=(E2.cell (p:=⟨rb,0,none⟩) (by have:=E.size;simp;omega)).trans d0;clear E2;go_wp2_with fail
     go_step3
     refine⟨rfl,⟨HE2.out,q,hqn,by omega,rfl,HY⟩,?_⟩;simp[intOf];omega
    ·have OUT:=hid (OUT.out hf0)
     obtain⟨t,ht⟩: ∃t,trimT tw=t:=⟨_,rfl⟩;have ht0:t≠[]:=fun h=>hf0 (by rw[<-hf];exact HT.out.1 (by rw[ht];exact h))
     rw[ht]at TR;rw[hf,hm]at LD
     have zt:(tx t).toList.isEmpty=false:=by rw[tx_toList];cases t with
      |nil=>exact absurd rfl ht0
      |cons a b=>rfl
     have hfm:(m-f.length:Nat)<=262144:=by omega
     clear hf hf0 HT ht ht0
     go_wp2_with (first|(go_at_call 78;refine(IB.out _).mono ?_;rintro e w' ⟨rfl,rfl⟩)|fail)
     refine(TR.out _).mono ?_;rintro e w2 ⟨rfl,E2⟩;have HE2:=hid (E.trans (E2.mono E.size));have d0:=(E2.cell (p:=⟨rb,0,none⟩) (by have:=E.size;simp;omega)).trans d0;clear E2;have cA:=fun(d:Nat) (os:Array Obj)=>Calls.regrown_of (LD.out (grow (redrawn w2 d) os))
     go_wp2_with fail;have d0:=cell_regrown d0;refine wp_region_quiet_below (by kernel_rfl) (by kernel_rfl) ?_
     repeat(go_big_quiet_step (exact cA _ _))
     refine wpQuiet_nil ?_;intro _ hw';obtain⟨⟨dq,osq⟩,hw''⟩:=hw';subst hw'';have EQ':=below_regrown w2 dq osq;have EZ:=hid (HE2.out.trans (EQ'.mono HE2.out.size));generalize grow (redrawn w2 dq) osq=wq at*;clear d0 EQ' cA;go_wp2_with fail;simp only[Exit.jump];exact bodyPost_ret (by simp[results,Tryz.results74,go_sem];rfl) rfl ⟨by rw[<-HN.out];exact OUT.out,EZ.out⟩
  ·obtain rfl:k=n:=by omega
   have zk:decide ((k:Int)<=(k:Int))=true:=by simp
   have OUT:=hid (show PeekV k (s.drop k0) (.returned (.tuple #[.string (tx []),.int .i64 k,.int .i64 k,.bool false]))from .inl ⟨by rw[HU.out,<-hat.out,HN.out,List.drop_length];rfl,rfl⟩);have HN2:=hid HN.out.symm;clear hat hks hkn;go_wp2_with fail
   go_big_region
   all_goals go_wp2_with fail
   all_goals simp only[Exit.jump]
   all_goals exact bodyPost_ret (by simp[results,Tryz.results74,go_sem];rfl) rfl ⟨by rw[HN2.out];exact OUT.out,bel_drew HE.out⟩
theorem readFail(p:Value)(er k:Int)(w:World):Calls Tryz.prog 76 #[p,.int .i64 er,.int .i64 k] w (fun e w'=>e= .panicked [{ v:=.iface 65 (.agg #[.int .i64 er,.int .i64 k]),recovered:=false }]/\Below w.heap.size w w'):=by
 go_enter Tryz.func76,Tryz.ntmps76;go_wp2_with fail;exact⟨rfl,rfl,blN⟩
theorem readWordsN(l:Tx)(hl:l.length<=262144)(w:World):Calls Tryz.prog 75 #[.string (tx l)] w fun e w'=> ∃a,e= .returned (.slice a (fldA [] l).length (fldA [] l).length)/\Txs w' a (fldA [] l)/\w.heap.size<=bk a/\Below w.heap.size w w':=by
 have hfl:=fld_le l
 have F: ∀w,Calls Tryz.prog 147 #[.string (tx l),.func (.func 148) #[] #[]] w fun e w'=> ∃a,e= .returned (.slice a (fldA [] l).length (fldA [] l).length)/\Txs w' a (fldA [] l)/\w.heap.size<=bk a/\Below w.heap.size w w':=fun w=>by
  refine(Any.strings_FieldsFunc_grows Tryz.l229 148 #[] (enters_of Tryz.func148 (by kernel_rfl) rfl) runeB (tx l) w (by rw[tx_size];omega) (fun W x hx _=>readWords1 x hx W) (by kernel_rfl) (by kernel_rfl)).mono ?_;rintro e w' ⟨A,rfl,hA,hO,hB⟩;rw[fields_fld]at hO⊢;simp only[List.length_map]at hO⊢;refine⟨_,rfl,⟨?_,by omega⟩,(Own.lt (show Own w' w.heap.size _ 1 (Option.some ⟨A,0,none⟩) _ _ _ from hO) (by simp)).1,hB⟩;have:=Own.row (show Own w' w.heap.size _ 1 (Option.some ⟨A,0,none⟩) _ _ _ from hO);rw[List.map_map]at this;exact this
 have F:=hid F;obtain⟨L,hL⟩: ∃L,fldA [] l=L:=⟨_,rfl⟩;rw[hL]at F⊢;clear hfl hL hl;go_enter Tryz.func75,Tryz.ntmps75;go_wp2_with fail;refine(F.out _).mono ?_;rintro e w1 ⟨a,rfl,T,hab,E⟩;go_wp2_with fail;go_ret;exact⟨a,rfl,T,hab,E⟩
def RetHd(p:EP (Int × Tx × Tx))(w1 w:World)(s:Tx)(t:Tst)(e:Ending)(w':World):Prop:=Below w1.heap.size w1 w'/\((∃er k,p= .error (er,k)/\e=PanS er k)\/(∃a n r1 k',p= .ok (a,n,r1)/\s.drop k'=r1/\e= .returned (.tuple #[])/\St w w' w1.heap.size/\RdS w1 w' s k' { t with arch:=a,name:=n }))
theorem headP_no{N:Nat}{r:Tx}(h:twoL (lineL (sgnL r))=none):headP N r= .error (140,plc N (sgnL r)):=by
 unfold headP;dsimp only;rw[h]
theorem headP_arch{N:Nat}{r x y:Tx}(h:twoL (lineL (sgnL r))=some (x,y))(h2:archW x=none):headP N r= .error (5,plc N (sgnL r)):=by
 unfold headP;dsimp only;rw[h];dsimp only;rw[h2]
theorem headP_yes{N:Nat}{r x y:Tx}{a:Int}(h:twoL (lineL (sgnL r))=some (x,y))(h2:archW x=some a):headP N r= .ok (a,y,restL (sgnL r)):=by
 unfold headP;dsimp only;rw[h];dsimp only;rw[h2]
theorem plc_nil(N:Nat):plc N []=N:=rfl
theorem drop_suf{s u:Tx}{k:Nat}(h:u <:+ s.drop k):s.drop (s.length-u.length)=u:=by
 have h2:u <:+ s:=h.trans (List.drop_suffix k s);exact(List.suffix_iff_eq_drop.1 h2).symm
theorem sgn_suf'(r:Tx):sgnL r <:+ r:=List.dropWhile_suffix _
theorem rest_suf(r:Tx):restL r <:+ r:=(List.drop_suffix 1 _).trans (List.dropWhile_suffix _)
theorem readHead{w1 w:World}{s:Tx}{k:Nat}{t:Tst}(R:RdS w1 w s k t):Calls Tryz.prog 27 #[.pointer (some ⟨w1.heap.size,0,none⟩)] w (RetHd (headP s.length (s.drop k)) w1 w s t):=by
 have c0:=R.bx.get 0 _ rfl;have c1:=R.bx.get 1 _ rfl;have hl:=R.sl;have PK:=hid (readPeek s w1.heap.size k R.le R.sl w c0 c1);have FL:=hid (fun p er k w=>readFail p er k w);have HR:=hid R;obtain⟨u,hu⟩: ∃u,sgnL (s.drop k)=u:=⟨_,rfl⟩;have P1:=hid (fun h=>headP_no (N:=s.length) (r:=s.drop k) h);have P2:=hid (fun x y h h2=>headP_arch (N:=s.length) (r:=s.drop k) (x:=x) (y:=y) h h2);have P3:=hid (fun x y a h h2=>headP_yes (N:=s.length) (r:=s.drop k) (x:=x) (y:=y) (a:=a) h h2);rw[hu]at P1 P2 P3;generalize headP s.length (s.drop k)=hp at*;clear c0 c1;go_enter Tryz.func27,Tryz.ntmps27;go_wp2_with fail;refine PK.out.mono ?_;rintro e w2 ⟨hv,E2⟩;unfold PeekV at hv;rw[hu]at hv;rcases hv with⟨h0,rfl⟩|⟨b,h0,hb,h10,hbl,rfl⟩
 ·have WD:=hid (readWordsN [] (by simp))
  have P1:=hid (P1.out (by rw[h0];rfl));rw[h0,plc_nil]at P1;have E2:=hid E2;clear hu h0;go_wp2_with fail;refine(WD.out _).mono ?_;rintro e w3 ⟨a,rfl,T,hab,E3⟩;have E:=hid (ext_trans E2.out E3);simp only[show(fldA [] []).length=0 from rfl];clear T E3;go_wp2_with fail;refine(FL.out _ _ _ _).mono ?_;rintro e w4 ⟨rfl,E4⟩;have E:=hid (ext_trans E.out E4);clear E4;go_wp2_with fail;exact⟨rfl,(HR.out.below E.out).bel,.inl ⟨_,_,P1.out,rfl⟩⟩
 ·obtain⟨c,hc⟩: ∃c,u.head?=some c:=by
   cases u with
   |nil=>exact absurd rfl h0
   |cons c r=>exact⟨c,rfl⟩
  have hcb:blankC c=false:=head_dropWhile (l:=s.drop k) (p:=blankC) (by rw[show(s.drop k).dropWhile blankC=u from hu];exact hc);obtain⟨q1,q2,q3⟩:=line_trim hc hcb hb;have hul:u.length<=s.length:=by rw[<-hu];have:=(sgn_suf' (s.drop k)).length_le;have:=List.length_drop (i:=k) (l:=s);omega
  have hin:b.length+u.length<=s.length:=by unfold plc at hbl;omega
  have hlen:(b++u.takeWhile (· != 10)).length<=262144:=by have:=takeWhile_le (· != 10) u;rw[List.length_append];omega
  have WD:=hid (readWordsN (b++u.takeWhile (· != 10)) hlen);have T2:=two_fld q2;rw[<-q1,fld_trim,q1]at T2;have hrest:s.drop (s.length-(restL u).length)=restL u:=drop_suf (k:=k) ((rest_suf u).trans (by rw[<-hu];exact sgn_suf' _));have hle:s.length-(restL u).length<=s.length:=by omega
  generalize b++u.takeWhile (· != 10)=ln at*;obtain⟨L,hL⟩: ∃L,fldA [] ln=L:=⟨_,rfl⟩;rw[hL]at WD T2;have E2:=hid E2;have HT:=hid T2;have HRE:=hid hrest;clear hu hc q1 q2 q3 hL T2 hrest hul hin hlen hbl;go_wp2_with fail;refine(WD.out _).mono ?_;rintro e w3 ⟨a,rfl,T,hab,E3⟩;have E:=hid (ext_trans E2.out E3);clear E3
  by_cases h2:L.length=2
  ·match L,h2 with
   |[x,y],_=>
   have P2:=hid (fun h=>P2.out x y HT.out h);have P3:=hid (fun a h=>P3.out x y a HT.out h);have i0: ∀w',(Instr.indexAt 42 (.slice a 2 2) (.int .i64 0)).run Tryz.prog w'=_:=T.idx 0 (by simp) 2;have i1: ∀w',(Instr.indexAt 42 (.slice a 2 2) (.int .i64 1)).run Tryz.prog w'=_:=T.idx 1 (by simp) 2;have x0:w3.cell? ⟨bk a,fo a+0,none⟩=some (.string (tx x)):=T.cell 0 (by simp);have x1:w3.cell? ⟨bk a,fo a+1,none⟩=some (.string (tx y)):=T.cell 1 (by simp);simp only[Nat.add_zero]at i0 x0;have R3:=HR.out.below E.out;have hf:=fun j=>R3.frz j
   have hf1:=hf 1;have hf2:=hf 2;have hf3:=hf 3;have q1:=R3.bx.get 1 _ rfl;have q2:=R3.bx.get 2 _ rfl;have q3:=R3.bx.get 3 _ rfl;have hrb:=R3.lt;have hne:bk a≠w1.heap.size:=by have:=E2.out.size;have:=HR.out.lt;omega
   have hne2:=hne.symm
   by_cases hx1:x=[88,56,54]
   ·subst hx1
    have zx:((tx [88,56,54]).toList==[88,56,54])=true:=by rw[tx_toList];rfl
    have P3:=hid (P3.out 1 rfl);generalize tx [88,56,54]=ux at*;have R4:=(R3.put 2 (.int .i64 1) (t':={ t with arch:=1 }) rfl R3.le).1;have R5:=(R4.put 3 (.string (tx y)) (t':={ t with arch:=1,name:=y }) rfl R4.le).1;have R6:=(R5.put 1 (.int .i64 (s.length-(restL u).length:Nat)) (k':=s.length-(restL u).length) (t':={ t with arch:=1,name:=y }) rfl hle).1;have ST:=((R3.put 2 (.int .i64 1) (t':={ t with arch:=1 }) rfl R3.le).2.trans (R4.put 3 (.string (tx y)) (t':={ t with arch:=1,name:=y }) rfl R4.le).2).trans (R5.put 1 (.int .i64 (s.length-(restL u).length:Nat)) (k':=s.length-(restL u).length) (t':={ t with arch:=1,name:=y }) rfl hle).2;replace ST:=hid ((step_below E.out).trans ST);replace R6:=hid R6;clear R3 R4 R5 T P1 P2;go_wp2_with fail
    go_end0
    exact⟨R6.out.bel,.inr ⟨_,_,_,_,P3.out,HRE.out,rfl,ST.out,R6.out⟩⟩
   ·have zx:=tx_ne _ _ hx1
    by_cases hx2:x=[82,73,83,67,86]
    ·subst hx2
     have zx2:((tx [82,73,83,67,86]).toList==[82,73,83,67,86])=true:=by rw[tx_toList];rfl
     have P3:=hid (P3.out 2 rfl);generalize tx [82,73,83,67,86]=ux at*;have R4:=(R3.put 2 (.int .i64 2) (t':={ t with arch:=2 }) rfl R3.le).1;have R5:=(R4.put 3 (.string (tx y)) (t':={ t with arch:=2,name:=y }) rfl R4.le).1;have R6:=(R5.put 1 (.int .i64 (s.length-(restL u).length:Nat)) (k':=s.length-(restL u).length) (t':={ t with arch:=2,name:=y }) rfl hle).1;have ST:=((R3.put 2 (.int .i64 2) (t':={ t with arch:=2 }) rfl R3.le).2.trans (R4.put 3 (.string (tx y)) (t':={ t with arch:=2,name:=y }) rfl R4.le).2).trans (R5.put 1 (.int .i64 (s.length-(restL u).length:Nat)) (k':=s.length-(restL u).length) (t':={ t with arch:=2,name:=y }) rfl hle).2;replace ST:=hid ((step_below E.out).trans ST);replace R6:=hid R6;clear R3 R4 R5 T P1 P2 hx1;go_wp2_with fail
     go_end0
     exact⟨R6.out.bel,.inr ⟨_,_,_,_,P3.out,HRE.out,rfl,ST.out,R6.out⟩⟩
    ·have zx2:=tx_ne _ _ hx2
     have P2:=hid (P2.out (by unfold archW;rw[if_neg hx1,if_neg hx2]));clear R3 hx1 hx2 T P1 P3;go_wp2_with fail;refine(FL.out _ _ _ _).mono ?_;rintro e w4 ⟨rfl,E4⟩;have E:=hid (ext_trans E.out E4);clear E4;go_wp2_with fail;exact⟨rfl,(HR.out.below E.out).bel,.inl ⟨_,_,P2.out,rfl⟩⟩
  ·have P1:=hid (P1.out (by
    rw[HT.out]
    match L,h2 with
    |[],_=>rfl
    |[_],_=>rfl
    |[_,_],h2=>exact absurd rfl h2
    |_::_::_::_,_=>rfl))
   have z2:((L.length:Int) != 2)=true:=by simp;omega
   clear T h2 HT;generalize L.length=m at*;go_wp2_with fail;refine(FL.out _ _ _ _).mono ?_;rintro e w4 ⟨rfl,E4⟩;have E:=hid (ext_trans E.out E4);clear E4;go_wp2_with fail;exact⟨rfl,(HR.out.below E.out).bel,.inl ⟨_,_,P1.out,rfl⟩⟩
def RetCy(p:EP (Tx × Tx))(w1 w:World)(s:Tx)(t:Tst)(e:Ending)(w':World):Prop:=Below w1.heap.size w1 w'/\((∃er k,p= .error (er,k)/\e=PanS er k)\/(∃c r1 k',p= .ok (c,r1)/\s.drop k'=r1/\e= .returned (.tuple #[])/\St w w' w1.heap.size/\RdS w1 w' s k' { t with cycle:=c }))
theorem cycleP_skip{N:Nat}{r:Tx}(h:(lineL (sgnL r)).head?≠some 34):cycleP N r= .ok ([],r):=by
 unfold cycleP;dsimp only;rw[if_pos h]
theorem cycleP_no{N:Nat}{r:Tx}(h0:(lineL (sgnL r)).head?=some 34)(h:(lineL (sgnL r)).length<2\/(lineL (sgnL r)).getLast?≠some 34\/(lineL (sgnL r)).count 34≠2):cycleP N r= .error (140,plc N (sgnL r)):=by
 unfold cycleP;dsimp only;rw[if_neg (by rw[h0];simp),if_pos h]
theorem cycleP_yes{N:Nat}{r:Tx}(h0:(lineL (sgnL r)).head?=some 34)(h: ¬((lineL (sgnL r)).length<2\/(lineL (sgnL r)).getLast?≠some 34\/(lineL (sgnL r)).count 34≠2)):cycleP N r= .ok (trimT ((lineL (sgnL r)).drop 1).dropLast,restL (sgnL r)):=by
 unfold cycleP;dsimp only;rw[if_neg (by rw[h0];simp),if_neg h]
theorem noCycle{t:Tst}(h:t.cycle=[]):{ t with cycle:=[] }=t:=by
 obtain⟨arch,name,cycle,ia,ic,init,ca,cc,code,q,node⟩:=t;simp only at h;subst h;rfl
theorem readCycle{w1 w:World}{s:Tx}{k:Nat}{t:Tst}(R:RdS w1 w s k t)(hcy:t.cycle=[]):Calls Tryz.prog 28 #[.pointer (some ⟨w1.heap.size,0,none⟩)] w (RetCy (cycleP s.length (s.drop k)) w1 w s t):=by
 have c0:=R.bx.get 0 _ rfl;have c1:=R.bx.get 1 _ rfl;have hl:=R.sl;have PK:=hid (readPeek s w1.heap.size k R.le R.sl w c0 c1);have FL:=hid (fun p er k w=>readFail p er k w);have HR:=hid R;have HCY:=hid (noCycle hcy);obtain⟨u,hu⟩: ∃u,sgnL (s.drop k)=u:=⟨_,rfl⟩;have P1:=hid (fun h=>cycleP_skip (N:=s.length) (r:=s.drop k) h);have P2:=hid (fun h0 h=>cycleP_no (N:=s.length) (r:=s.drop k) h0 h);have P3:=hid (fun h0 h=>cycleP_yes (N:=s.length) (r:=s.drop k) h0 h);rw[hu]at P1 P2 P3;generalize cycleP s.length (s.drop k)=hp at*;clear c0 c1 hcy;go_enter Tryz.func28,Tryz.ntmps28;go_wp2_with fail;refine PK.out.mono ?_;rintro e w2 ⟨hv,E2⟩;unfold PeekV at hv;rw[hu]at hv;rcases hv with⟨h0,rfl⟩|⟨b,h0,hb,h10,hbl,rfl⟩
 ·have TR:=hid (fun w=>readTrim [] (by simp) w)
  have P1:=hid (P1.out (by rw[h0];decide));have E2:=hid E2;clear hu h0;go_wp2_with fail;refine(TR.out _).mono ?_;rintro e w3 ⟨rfl,E3⟩;have E:=hid (ext_trans E2.out E3);clear E3;go_wp2_with fail;exact bodyPost_ret (by simp[results,Tryz.results28,go_sem]) rfl ⟨(HR.out.below E.out).bel,.inr ⟨_,_,k,P1.out,rfl,rfl,step_below E.out,by rw[HCY.out];exact HR.out.below E.out⟩⟩
 ·obtain⟨c,hc⟩: ∃c,u.head?=some c:=by
   cases u with
   |nil=>exact absurd rfl h0
   |cons c r=>exact⟨c,rfl⟩
  have hcb:blankC c=false:=head_dropWhile (l:=s.drop k) (p:=blankC) (by rw[show(s.drop k).dropWhile blankC=u from hu];exact hc);obtain⟨q1,q2,q3⟩:=line_trim hc hcb hb;have hul:u.length<=s.length:=by rw[<-hu];have:=(sgn_suf' (s.drop k)).length_le;have:=List.length_drop (i:=k) (l:=s);omega
  have hin:b.length+u.length<=s.length:=by unfold plc at hbl;omega
  have hlen:(b++u.takeWhile (· != 10)).length<=262144:=by have:=takeWhile_le (· != 10) u;rw[List.length_append];omega
  have TR:=hid (fun w=>readTrim (b++u.takeWhile (· != 10)) (by omega) w);have hll:=trimT_length (b++u.takeWhile (· != 10));rw[q1]at TR hll;have hrest:s.drop (s.length-(restL u).length)=restL u:=drop_suf (k:=k) ((rest_suf u).trans (by rw[<-hu];exact sgn_suf' _));have hle:s.length-(restL u).length<=s.length:=by omega
  have hlm:(lineL u).length<=262144:=by omega
  generalize b++u.takeWhile (· != 10)=ln at*;generalize lineL u=l at*;have E2:=hid E2;have HRE:=hid hrest;clear hu hc q1 q2 hrest hul hin hlen hbl hll;go_wp2_with fail;refine(TR.out _).mono ?_;rintro e w3 ⟨rfl,E3⟩;have E:=hid (ext_trans E2.out E3);clear E3
  obtain⟨r0,rfl⟩: ∃r0,l=c::r0:=by
   cases l with
   |nil=>cases q3
   |cons d r0=>exact⟨r0,by rw[show d=c from Option.some.inj q3]⟩
  have i0:=run_ixz (c::r0) c rfl
  by_cases hc34:c=34
  ·subst hc34
   have y0:(((34:UInt8).toNat:Int) != 34)=false:=by decide
   have hsz:=tx_size (34::r0);obtain⟨n,hn⟩: ∃n,(tx (34::r0)).size=n:=⟨_,rfl⟩;have hnl:n=r0.length+1:=by rw[<-hn,hsz];simp
   have hn1:n<=262144:=by have:(34::r0).length=r0.length+1:=rfl;omega
   have CN:=hid (fun w=>count_any (34::r0) 34 w);rcases List.eq_nil_or_concat r0 with h1|⟨m,z,h1⟩
   ·have z1:decide ((n:Int)<2)=true:=by rw[hnl,h1];decide
    have P2:=hid (P2.out rfl (.inl (by rw[h1];decide)));clear hsz hnl P1 P3 h1;go_wp2_with fail;refine(FL.out _ _ _ _).mono ?_;rintro e w4 ⟨rfl,E4⟩;have E:=hid (ext_trans E.out E4);clear E4;go_wp2_with fail;exact⟨rfl,(HR.out.below E.out).bel,.inl ⟨_,_,P2.out,rfl⟩⟩
   ·rw[List.concat_eq_append]at h1
    have z1:decide ((n:Int)<2)=false:=by rw[hnl,h1];simp;omega
    have hm2:n=m.length+2:=by rw[hnl,h1];simp
    have gl:(34::r0).getLast?=some z:=by rw[h1];exact last_cm _ _ _
    have i1:=run_ix (34::r0) (m.length+1) z (by rw[h1];simp);rw[show((m.length+1:Nat):Int)=(n:Int)-1 by omega]at i1
    by_cases hz:z=34
    ·subst hz
     have y1:(((34:UInt8).toNat:Int) != 34)=false:=by decide
     obtain⟨cn,hcn⟩: ∃cn,(34::r0).count 34=cn:=⟨_,rfl⟩;rw[hcn]at CN
     by_cases hc2:cn=2
     ·subst hc2
      have P3:=hid (P3.out rfl (by
       rintro(h|h|h)
       ·rw[h1]at h;simp only[List.length_cons,List.length_append,List.length_nil]at h;omega
       ·exact h gl
       ·exact h hcn))
      have ed:(List.drop 1 (34::r0)).dropLast=m:=by rw[h1];simp
      rw[ed]at P3;have sl:=run_strsl (34::r0) 1 (m.length+1) (by omega) (by rw[h1];simp);have e2:((34::r0).take (m.length+1)).drop 1=m:=by rw[h1];simp
      rw[e2,show((m.length+1:Nat):Int)=(n:Int)-1 by omega,show((1:Nat):Int)=1 by rfl]at sl;have TM:=hid (fun w=>readTrim m (by omega) w);have R3:=HR.out.below E.out;generalize trimT m=tm at*;have R5:=R3.put 4 (.string (tx tm)) (t':={ t with cycle:=tm }) rfl R3.le;clear hsz hnl hm2 P1 P2 h1 ed e2 gl hcn R3 R5
      go_wp2_with (first|(go_at_call 77;refine(CN.out _).mono ?_;rintro e w' ⟨rfl,rfl⟩)|fail)
      refine(TM.out _).mono ?_;rintro e w4 ⟨rfl,E4⟩;have E:=hid (ext_trans E.out E4);clear E4;have R3:=HR.out.below E.out;have q1:=R3.bx.get 1 _ rfl;have q4:=R3.bx.get 4 _ rfl;have hf1:=R3.frz 1;have hf4:=R3.frz 4;have hrb:=R3.lt;have R5:=R3.put 4 (.string (tx tm)) (t':={ t with cycle:=tm }) rfl R3.le;have R6:=R5.1.put 1 (.int .i64 (s.length-(restL u).length:Nat)) (k':=s.length-(restL u).length) (t':={ t with cycle:=tm }) rfl hle;have ST:=hid ((step_below E.out).trans (R5.2.trans R6.2));replace R6:=hid R6.1;clear R3 R5;go_wp2_with fail
      go_end0
      exact⟨R6.out.bel,.inr ⟨_,_,_,P3.out,HRE.out,rfl,ST.out,R6.out⟩⟩
     ·have P2:=hid (P2.out rfl (.inr (.inr (by rw[hcn];exact hc2))))
      have z2:((cn:Int) != 2)=true:=by simp;omega
      clear hsz hnl hm2 P1 P3 h1 gl hcn hc2
      go_wp2_with (first|(go_at_call 77;refine(CN.out _).mono ?_;rintro e w' ⟨rfl,rfl⟩)|fail)
      refine(FL.out _ _ _ _).mono ?_;rintro e w4 ⟨rfl,E4⟩;have E:=hid (ext_trans E.out E4);clear E4;go_wp2_with fail;exact⟨rfl,(HR.out.below E.out).bel,.inl ⟨_,_,P2.out,rfl⟩⟩
    ·have P2:=hid (P2.out rfl (.inr (.inl (by rw[gl];simpa using hz))))
     have y1:((z.toNat:Int) != 34)=true:=u8_ne z 34 hz;clear hsz hnl hm2 P1 P3 h1 gl hz;go_wp2_with fail;refine(FL.out _ _ _ _).mono ?_;rintro e w4 ⟨rfl,E4⟩;have E:=hid (ext_trans E.out E4);clear E4;go_wp2_with fail;exact⟨rfl,(HR.out.below E.out).bel,.inl ⟨_,_,P2.out,rfl⟩⟩
  ·have P1:=hid (P1.out (by simpa using hc34))
   have y0:((c.toNat:Int) != 34)=true:=u8_ne c 34 hc34;clear P2 P3 hc34;go_wp2_with fail;exact bodyPost_ret (by simp[results,Tryz.results28,go_sem]) rfl ⟨(HR.out.below E.out).bel,.inr ⟨_,_,k,P1.out,rfl,rfl,step_below E.out,by rw[HCY.out];exact HR.out.below E.out⟩⟩
end Go.Proofs.YtkbbgjloifmmbaaGreatDoor
