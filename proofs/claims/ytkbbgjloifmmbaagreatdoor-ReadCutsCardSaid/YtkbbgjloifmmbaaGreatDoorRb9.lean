/- What ReadBackP leans on, part 9. -/
import Derived.Test.YtkbbgjloifmmbaaGreatDoorRb8
import Derived.Lib.QuietBelow
set_option linter.unusedVariables false
set_option maxRecDepth 100000
set_option maxHeartbeats 32000000
namespace Go.Proofs.YtkbbgjloifmmbaaGreatDoor
open _root_.Go.Proofs.Tryz
open _root_.Bool renaming and_eq_true->am6,not_false->apX,not_true->apZ
open _root_.List renaming length_cons->ans,length_nil->anX,length_append->aoE,flatMap_append->aqi,mem_cons->amY,getD_eq_getElem?_getD->apo,getElem?_eq_some_iff->ano,all_eq_true->anq,getElem?_eq_getElem->amK,take_of_length_le->apq,mem_of_mem_take->aqJ,mem_singleton->anw,flatMap_cons->aqu,length_take->aoc,mem_append->anu
open _root_.Go.Op renaming stringOp->anY
open _root_.Go.Lib renaming decDigits->anm,itoa->anj
open _root_.UInt8 renaming ofNat->anP,le_iff_toNat_le->ant
open _root_.Nat renaming strongRecOn->aqK,mod_lt->aqL
def pG(t:ak):Tx:=rW t++jc t++[123,10]
def lM(t:ak)(k:Nat):Tx:=(t.init.take k).flatMap (dI t.af)
theorem Rg(t:ak):lM t 0=[]:=rfl
theorem Rf{t:ak}{k:Nat}{x:aF}(h:t.init[k]? =some x):lM t (k+1)=lM t k++dI t.af x:=by
 unfold lM;rw[jY h,aqi];simp
theorem ac0{t:ak}(h: ∀x∈t.init,(dI t.af x).length<=100)(k:Nat):(lM t k).length<=100*t.init.length:=by
 have key: ∀l:List aF,(∀x∈l,(dI t.af x).length<=100)->(l.flatMap (dI t.af)).length<=100*l.length:=by
  intro l
  induction l with
  |nil=>intro _;simp
  | cons x r ih=>
    intro hl;have h1:=hl x (by simp);have h2:=ih fun y hy=>hl y (by simp[hy])
    simp only[aqu,aoE,ans];omega
 have:=key (t.init.take k) fun x hx=>h x (aqJ hx)
 unfold lM;have h2:(t.init.take k).length<=t.init.length:=by rw[aoc];omega
 omega
def kC(t:ak)(k:Nat):Tx:=((ig t).take k).flatMap fun l=>l++[10]
theorem Vv(t:ak):kC t 0=[]:=rfl
theorem Vu{t:ak}{k:Nat}{x:Tx}(h:(ig t)[k]? =some x):kC t (k+1)=kC t k++x++[10]:=by
 unfold kC;rw[jY h,aqi];simp
theorem yT(t:ak):(ig t).length=pg t+1:=by rw[La,JU]
theorem aei(t:ak)(k:Nat)(hc:t.code.length<=16):(lN k t).length<=2100:=by
 have:=Ni k t t.code.length hc;rw[apq (by rw[wA];omega)]at this;rw[JR];simp only[aoE,ans,anX];omega
theorem Lb{t:ak}(hc:t.code.length<=16){x:Tx}(h:x∈ig t):x.length<=2100:=by
 unfold ig at h;obtain⟨k,-, rfl⟩:=List.mem_map.1 h;exact aei t k hc
theorem Vt{t:ak}(hc:t.code.length<=16)(hr: ∀x∈t.code,x.l.length<=256)(k:Nat):(kC t k).length<=540000:=by
 have key: ∀l:List Tx,(∀x∈l,x.length<=2100)->(l.flatMap fun l=>l++[10]).length<=2101*l.length:=by
  intro l
  induction l with
  |nil=>intro _;simp
  | cons x r ih=>
    intro hl;have h1:=hl x (by simp);have h2:=ih fun y hy=>hl y (by simp[hy])
    simp only[aqu,aoE,ans,anX];omega
 have h1:=key ((ig t).take k) fun x hx=>Lb hc (aqJ hx)
 have h2:((ig t).take k).length<=257:=by
  rw[aoc,yT];have:=AM hr;rw[vD];omega
 unfold kC;omega
theorem ajm(t:ak){j k:Nat}(h:j<=k):(kC t j).length<=(kC t k).length:=by
 obtain⟨d,rfl⟩:=Nat.exists_eq_add_of_le h;unfold kC;rw[List.take_add,aqi,aoE];omega
theorem Pm(t:ak):mX t=pG t++lM t t.init.length++[125,10]++kC t (pg t+1)++eF t.af t.q t.node++[10]:=by
 unfold mX pG lM kC;rw[List.take_length,apq (by rw[yT];omega)]
theorem IJ{t:ak}(h:eW t.name=true):(rW t).length<=1031:=by
 unfold eW at h;simp only[am6,decide_eq_true_eq]at h;have:=h.2.1;unfold rW
 split<;>(simp only[aoE,ans,anX];omega)
theorem Ht{t:ak}(h:eY t.aC=true):(jc t).length<=262147:=by
 unfold eY at h;simp only[am6,decide_eq_true_eq]at h;have:=h.1;unfold jc;split
 ·simp
 ·simp only[aoE,ans,anX];omega
theorem VY{af q:Int}{x:Nd}(h:bF af q x=0):(eF af q x).length<=102500:=by
 obtain⟨-, -, -, ho,hn⟩:=rL h;have:=uq ho;have h2:(iQ q).length<=9:=by unfold iQ;split<;>(try split)<;>simp
 unfold eF;simp only[aoE,ans,anX];omega
theorem Uq{t:ak}(h1:eW t.name=true)(h2:eY t.aC=true):(pG t).length<=263200:=by
 have a:=IJ h1;have b:=Ht h2;unfold pG;simp only[aoE,ans,anX];omega
def nH(l:List Cd):List Cd:=l.map fun x=>⟨none,0,x.l⟩
def bare(t:ak):ak:=⟨t.af,t.name,t.aC,none,0,t.init,none,0,nH t.code,t.q,t.node⟩
theorem GH(l:List Cd):(nH l).length=l.length:=by unfold nH;simp
theorem Vp(af:Int): ∀l,gY af (nH l)=gY af l
 |[]=>rfl
 | x::r=>by
   have ih:=Vp af r;show gY af (⟨none,0,x.l⟩::nH r)=_;unfold gY;rw[ih]
theorem ZA(t:ak):cg (bare t)=cg t:=by
 unfold cg;rw[show(bare t).code=nH t.code from rfl,GH,show(bare t).af=t.af from rfl,Vp]
 congr 2
 unfold nH;rw[List.any_map];rfl
theorem YN(t:ak):dW (bare t)=dW t:=by
 unfold dW;rw[show(bare t).code=nH t.code from rfl,GH];rfl
theorem ahN(t:ak):ud (bare t)=ud t:=by
 unfold ud;rw[show(bare t).code=nH t.code from rfl];unfold nH;rw[List.flatMap_map];rfl
theorem aeU(t:ak):gH (bare t)=gH t:=by unfold gH;rw[ahN]
theorem akV(t:ak):bI (bare t)=bI t:=by
 unfold bI;rw[ZA,YN,aeU,show(bare t).code=nH t.code from rfl,GH];rfl
def mU(b:UInt8):Bool:=decide (32<=b.toNat)&&(decide (b.toNat<=122)&&(decide (b.toNat≠59)&&decide (b.toNat≠34)))
def bu(s:Tx):Prop:= ∀b∈s,mU b=true
theorem bu.nil:bu []:=fun b hb=>by simp at hb
theorem bu.app{a b:Tx}(h1:bu a)(h2:bu b):bu (a++b):=fun c hc=>(anu.1 hc).elim (h1 c) (h2 c)
theorem bu.cons{c:UInt8}{b:Tx}(h1:mU c=true)(h2:bu b):bu (c::b):=fun d hd=>by
 rcases amY.1 hd with rfl|h
 ·exact h1
 ·exact h2 d h
theorem bu.lit{l:Tx}(h:l.all mU=true):bu l:=fun b hb=>anq.1 h b hb
theorem kZ{p:UInt8->Bool}(h: ∀n:Fin 256,p (anP n.val)=true)(c:UInt8):p c=true:=by
 have:=h ⟨c.toNat,c.toNat_lt⟩;simpa using this
theorem SU(c:UInt8)(h:bU c=true):mU c=true:=by
 have:=kZ (p:=fun c=> !bU c||mU c) (by decide+kernel) c;rw[h]at this;simpa using this
theorem pZ(n:Nat):mU (lD n)=true:=by
 have key: ∀k:Fin 10,mU (anP (48+k.val))=true:=by decide
 exact key ⟨n%10,aqL _ (by omega)⟩
theorem Ak(n:Nat):bu (cR n):=by
 unfold cR;split
 ·exact(bu.nil).cons (pZ _)
 ·split
  ·exact((bu.nil).cons (pZ _)).cons (pZ _)
  ·split
   ·exact(((bu.nil).cons (pZ _)).cons (pZ _)).cons (pZ _)
   ·exact((((bu.nil).cons (pZ _)).cons (pZ _)).cons (pZ _)).cons (pZ _)
theorem aaV(n:Int):bu (gD n):=by
 unfold gD;split
 ·exact(Ak _).cons (by decide)
 ·exact Ak _
theorem aiS(n:Nat):bu (bH n):=(Ak n).cons (by decide)
theorem mH(n:Int):bu (rT n):=aiS _
theorem aiW: ∀n:Fin 16,(aO n.val).all mU=true:=by decide+kernel
theorem KI(n:Nat):bu (aO n):=by
 by_cases h:n<16
 ·exact bu.lit (aiW ⟨n,h⟩)
 ·unfold aO
  rw[apo,List.getElem?_eq_none (by simp[sr];omega)];exact bu.nil
theorem Ew{s:Tx}(h:az s=true):bu s:=by
 cases s with
 |nil=>exact bu.nil
 | cons c r=>
   unfold az at h;simp only[am6,decide_eq_true_eq]at h;refine bu.cons (SU c ?_) fun b hb=>SU b (anq.1 h.2 b hb)
   unfold bU;rw[h.1.2];rfl
theorem OZ(u:Nat):bu (anm u):=by
 have key: ∀k:Fin 10,mU (anP (48+k.val))=true:=by decide
 induction u using aqK with
 | _ u ih=>
   rw[anm]
   by_cases h:u<10
   ·rw[dif_pos h]
    exact(bu.nil).cons (key ⟨u,h⟩)
   ·rw[dif_neg h]
    exact(ih _ (by omega)).app ((bu.nil).cons (key ⟨u%10,aqL _ (by omega)⟩))
theorem RB(n:Int):bu (anj n):=by
 unfold anj;split
 ·exact(OZ _).cons (by decide)
 ·exact OZ _
theorem Pv(n:Int):bu (iN n):=by
 unfold iN;split
 ·exact bu.lit (by decide)
 ·split
  ·exact bu.lit (by decide)
  ·exact bu.lit (by decide)
theorem af7{i:Ins}(h:dy i=true):bu (dJ i):=by
 unfold dy kQ at h;unfold dJ
 by_cases h1:i.op=1
 ·rw[if_pos h1]at h⊢
  simp only[am6]at h;exact(((bu.lit (by decide)).app (Ew h.1.1)).app (bu.lit (by decide))).app (RB _)
 ·rw[if_neg h1]at h⊢
  by_cases h2:i.op=2
  ·rw[if_pos h2]at h⊢
   simp only[am6]at h;exact(((bu.lit (by decide)).app (Ew h.1.1)).app (bu.lit (by decide))).app (KI _)
  ·rw[if_neg h2]at h⊢
   by_cases h3:i.op=3
   ·rw[if_pos h3]at h⊢
    simp only[am6]at h;exact((((bu.lit (by decide)).app (KI _)).app (bu.lit (by decide))).app (Ew h.1.1)).app (bu.lit (by decide))
   ·rw[if_neg h3]at h⊢
    by_cases h4:i.op=4
    ·rw[if_pos h4]at h⊢
     simp only[am6]at h;exact(((bu.lit (by decide)).app (KI _)).app (bu.lit (by decide))).app (RB _)
    ·rw[if_neg h4];exact bu.lit (by decide)
theorem af3{i:Ins}(h:aU i=true):bu (bV i):=by
 unfold aU at h;simp only[am6]at h;obtain⟨⟨⟨⟨ho, -⟩,hd⟩,ha⟩,hb⟩:=h
 have hl:i.op=11\/i.op=12->bu i.label:=fun e=>by
  unfold dn at ho;rw[if_neg (by omega),if_pos e]at ho;exact Ew ho
 have L: ∀{l:Tx},l.all mU=true->bu l:=fun h=>bu.lit h
 unfold bV
 by_cases e1:i.op=6
 ·rw[if_pos e1];exact(((((L (by decide)).app (mH _)).app (L (by decide))).app (mH _)).app (L (by decide)))
 rw[if_neg e1]
 by_cases e2:i.op=7
 ·rw[if_pos e2];exact(((((L (by decide)).app (mH _)).app (L (by decide))).app (mH _)).app (L (by decide)))
 rw[if_neg e2]
 by_cases e3:i.op=8
 ·rw[if_pos e3];exact(((((L (by decide)).app (mH _)).app (L (by decide))).app (mH _)).app (L (by decide))).app (aaV _)
 rw[if_neg e3]
 by_cases e4:i.op=9
 ·rw[if_pos e4];exact(((((L (by decide)).app (mH _)).app (L (by decide))).app (mH _)).app (L (by decide))).app (mH _)
 rw[if_neg e4]
 by_cases e5:i.op=10
 ·rw[if_pos e5];exact(((((L (by decide)).app (mH _)).app (L (by decide))).app (mH _)).app (L (by decide))).app (mH _)
 rw[if_neg e5]
 by_cases e6:i.op=11
 ·rw[if_pos e6];exact(((((L (by decide)).app (mH _)).app (L (by decide))).app (mH _)).app (L (by decide))).app (hl (.inl e6))
 rw[if_neg e6]
 by_cases e7:i.op=12
 ·rw[if_pos e7];exact(hl (.inr e7)).app (L (by decide))
 rw[if_neg e7];split
 ·exact L (by decide)
 ·exact(((L (by decide)).app (Pv _)).app (L (by decide))).app (Pv _)
theorem NI(af:Int)(i:Ins):bu (dL af i).1:=by
 unfold dL;split
 ·split
  ·rename_i h;exact af7 h
  ·exact bu.nil
 ·split
  ·split
   ·rename_i h;exact af3 h
   ·exact bu.nil
  ·exact bu.nil
theorem ZC(af:Int)(k:Nat)(l:List Ins): ∀s∈cm af k l,bu s:=by
 intro s hs;unfold cm at hs;rcases amY.1 hs with rfl|hs
 ·exact(Ak k).cons (by decide)
 ·obtain⟨i,-, rfl⟩:=List.mem_map.1 hs
  exact NI af i
theorem ZD(af:Int)(k:Nat)(l:List Ins)(j:Nat):bu ((cm af k l).getD j []):=by
 rw[apo];cases h:(cm af k l)[j]? with
 |none=>exact bu.nil
 |some s=>exact ZC af k l s (List.mem_of_getElem? h)
theorem afv{n:Nat}{s:Tx}(h:bu s):bu (lP n s):=h.app fun b hb=>by
 have:=(List.mem_replicate.1 hb).2;subst this;decide
theorem Vk(i:Nat)(t:ak): ∀s∈ji i t,bu s:=by
 intro s hs;obtain⟨k,hk⟩:=List.mem_iff_getElem?.1 hs;have hlt:k<t.code.length:=by rw[<-wA i t];exact(ano.1 hk).1
 rw[Fg i (amK hlt)]at hk;simp only[Option.some.injEq]at hk;subst hk;exact afv (ZD _ _ _ _)
theorem ajM{lo:Nat}{s:Tx}(h:mK lo s=true)(hlo:11<=lo):(10:UInt8)∉s/\(34:UInt8)∉s:=by
 unfold mK at h;rw[anq]at h
 constructor
 ·intro m
  have:=h 10 m;unfold iW at this;simp only[am6,decide_eq_true_eq]at this;have h2:(10:UInt8).toNat=10:=rfl;omega
 ·intro m
  have:=h 34 m;unfold iW at this;simp only[am6,decide_eq_true_eq]at this;exact this.2.2 rfl
def DZ(af:Int):Tx:=if af=2 then[82,73,83,67,86,32]else[88,56,54,32]
def Wm(l:Tx):Nat:=l.foldl (fun n b=>10*n+(b.toNat-48)) 0
theorem ak8(u:Nat):Wm (anm u)=u:=by
 have key: ∀k:Fin 10,(anP (48+k.val)).toNat-48=k.val:=by decide
 induction u using aqK with
 | _ u ih=>
   rw[anm]
   by_cases h:u<10
   ·rw[dif_pos h]
    have:=key ⟨u,h⟩;simp only at this;show 10*0+_=_;omega
   ·rw[dif_neg h]
    have h1:=ih (u/10) (by omega);unfold Wm at*;rw[List.foldl_append,h1];have:=key ⟨u%10,aqL _ (by omega)⟩;show 10*(u/10)+_=_;simp only at this;omega
theorem xJ(u:Nat): ∀b∈anm u,48<=b.toNat/\b.toNat<=57:=by
 have key: ∀k:Fin 10,48<=(anP (48+k.val)).toNat/\(anP (48+k.val)).toNat<=57:=by decide
 induction u using aqK with
 | _ u ih=>
   rw[anm]
   by_cases h:u<10
   ·rw[dif_pos h]
    intro b hb;rcases anw.1 hb with rfl;exact key ⟨u,h⟩
   ·rw[dif_neg h]
    intro b hb;rcases anu.1 hb with hb|hb
    ·exact ih _ (by omega) b hb
    ·rcases anw.1 hb with rfl
     exact key ⟨u%10,aqL _ (by omega)⟩
theorem xK(u:Nat):anm u≠[]:=by
 rw[anm]
 split<;>simp
def qs(b:UInt8):Bool:=b==45||aR b
theorem si(n:Int): ∀b∈anj n,qs b=true:=by
 have key: ∀u:Nat,∀b∈anm u,qs b=true:=fun u b hb=>by
  have:=xJ u b hb;unfold qs aR;rw[Bool.or_eq_true]
  right
  rw[am6];exact⟨decide_eq_true (ant.2 this.1),decide_eq_true (ant.2 this.2)⟩
 unfold anj;split
 ·intro b hb
  rcases amY.1 hb with rfl|hb
  ·rfl
  ·exact key _ b hb
 ·exact key _
theorem RH(n:Int):anj n≠[]:=by
 unfold anj;split
 ·simp
 ·exact xK _
end Go.Proofs.YtkbbgjloifmmbaaGreatDoor
namespace Go.Proofs.YtkbbgjloifmmbaaGreatDoor
open _root_.Go.Proofs.Tryz
open _root_.Bool renaming and_eq_true->am6,not_false->apX,not_true->apZ
open _root_.List renaming length_cons->ans,length_nil->anX,length_append->aoE,flatMap_append->aqi,mem_cons->amY,getD_eq_getElem?_getD->apo,getElem?_eq_some_iff->ano,all_eq_true->anq,getElem?_eq_getElem->amK,take_of_length_le->apq,mem_of_mem_take->aqJ,mem_singleton->anw,flatMap_cons->aqu,length_take->aoc,mem_append->anu
open _root_.Go.Op renaming stringOp->anY
open _root_.Go.Lib renaming decDigits->anm,itoa->anj
open _root_.UInt8 renaming ofNat->anP,le_iff_toNat_le->ant
open _root_.Nat renaming strongRecOn->aqK,mod_lt->aqL
open Go.RowKit
theorem nL:UF cG 297:=fun c=>Bd c _ (by decide)
theorem iB:UF aR 298:=fun c=>Hw c _ (by decide)
theorem Oz:SF az 322:=fun l hl=>yD l hl _ (by decide)
theorem ag2:SF az 118:=fun l hl=>yD l hl _ (by decide)
theorem Ks:SF az 252:=fun l hl=>yD l hl _ (by decide)
theorem SZ(l:Tx)(hl:l.length<=9223372036854775807)(F:Nat)(hF:F∈[177,225])(w:World):Calls prog F #[.string (tx l)] w fun e w'=>e= .returned (.bool (az l))/\w=w':=by
 simp only[amY,List.not_mem_nil,or_false]at hF;rcases hF with rfl|rfl
 all_goals
  have hs:=aP l;cases l with
  | nil=>
    have hs:(tx []).size=0:=rfl
    go_in
    go_wp2_with fail;go_ret;exact⟨rfl,rfl⟩
  | cons c r=>
    obtain⟨n,hn⟩: ∃n,(tx (c::r)).size=n:=⟨_,rfl⟩;have nT:1<=n:=by rw[<-hn,hs];simp
    have tP:n=r.length+1:=by rw[<-hn,hs];simp
    clear hs hl
    by_cases DN:n<=32
    ·have i0:=mJ (c::r) c rfl
     have HR:=hid tP;clear tP
     go_in
     go_wp2_with fail
     go_loop [3] (fun i=> ∃k:Nat,k<=n/\i= .int .i64 k/\Hid (∀(i:Nat) (x:UInt8),i<k->(c::r)[i]? =some x->bU x=true)/\Hid (0<k->cG c=true)) (fun i=>n-(intOf i).toNat)
     case atStart=>exact⟨0,by omega,rfl,fun i x hi=>absurd hi (Nat.not_lt_zero i),fun h=>absurd h (Nat.lt_irrefl 0)⟩
     case round=>
      obtain⟨k,hk,rfl,HM,HK⟩:=hrel
      by_cases hlt:k<n
      ·by_cases hk0:k=0
       ·subst hk0
        have hlt':c.toNat<256:=c.toNat_lt;obtain⟨m,hm⟩: ∃m,c.toNat=m:=⟨_,rfl⟩;have HC:=hid (JG c);rw[hm]at i0 hlt' HC
        have HY:=hid (show cG c=true->Hid (∀(i:Nat) (x:UInt8),i<1->(c::r)[i]? =some x->bU x=true)from fun h i x hi hx=>by
         obtain rfl:i=0:=by omega
         cases hx;unfold bU;rw[h];rfl)
        have HF:=hid (show cG c=false->az (c::r)=false from fun h=>by rw[yA,h];simp);have Qz:0<n:=by omega
        clear hm HM HK hk hlt;have hp:m<65\/(65<=m/\m<=90)\/(91<=m/\m<=96)\/(97<=m/\m<=122)\/123<=m:=by omega
        rcases hp with h|⟨h,h'⟩|⟨h,h'⟩|⟨h,h'⟩|h
        all_goals
         (try(have alJ:(!decide ((m:Int)<=122))=true:=by simp;omega))
         (try(have z90:(!decide ((m:Int)<=90))=true:=by simp;omega))
         go_wp2_with fail
         first
         |(go_round
           case rel=>exact⟨1,by omega,by go_num,HY.out (by rw[HC.out];simp<;>omega),hid fun _=>by rw[HC.out];simp<;>omega⟩
           case measure=>simp[intOf];omega)
         |(go_ret
           exact⟨aJ (HF.out (by rw[HC.out];simp<;>omega)).symm,rfl⟩)
       ·have vF:0<k:=by omega
        obtain⟨x,hx⟩: ∃x,(c::r)[k]? =some x:=⟨_,amK (by have:=HR.out;simp;omega)⟩;have ix:=iV (c::r) k x hx;have hlt':x.toNat<256:=x.toNat_lt;obtain⟨m,hm⟩: ∃m,x.toNat=m:=⟨_,rfl⟩;have HC:=hid (show bU x=(((decide (97<=m)&&decide (m<=122))||(decide (65<=m)&&decide (m<=90)))||(decide (48<=m)&&decide (m<=57))||decide (m=95)) by rw[SV,JG,O0,hm]);rw[hm]at ix hlt';have HF:=hid (fun h=>SR (l:=c::r) (k:=k) (c:=x) hx h)
        have dF:bU x=true->Hid (∀(i:Nat) (y:UInt8),i<k+1->(c::r)[i]? =some y->bU y=true):=fun hx' i y hi hy=>by
         rcases Nat.lt_succ_iff_lt_or_eq.1 hi with h|h
         ·exact HM.out i y h hy
         ·subst h;rw[hx]at hy;cases hy;exact hx'
        have dF:=hid dF;have HL:=hid (HK.out vF);clear hm hx HM HK hk0 i0;have hp:m<48\/(48<=m/\m<=57)\/(58<=m/\m<=64)\/(65<=m/\m<=90)\/(91<=m/\m<=94)\/m=95\/m=96\/(97<=m/\m<=122)\/123<=m:=by omega
        rcases hp with h|⟨h,h'⟩|⟨h,h'⟩|⟨h,h'⟩|⟨h,h'⟩|h|h|⟨h,h'⟩|h
        all_goals
         (try(have alJ:(!decide ((m:Int)<=122))=true:=by simp;omega))
         (try(have z90:(!decide ((m:Int)<=90))=true:=by simp;omega))
         (try(have z57:(!decide ((m:Int)<=57))=true:=by simp;omega))
         (try(have z95:((m:Int)==95)=false:=by simp;omega))
         (try subst h)
         go_wp2_with fail
         first
         |(go_round
           case rel=>exact⟨k+1,by omega,by go_num,dF.out (by rw[HC.out];simp<;>omega),fun _=>HL.out⟩
           case measure=>simp[intOf];omega)
         |(go_ret
           exact⟨aJ (HF.out (by rw[HC.out];simp<;>omega)).symm,rfl⟩)
      ·have HF:=hid (SM (c:=c) (r:=r) (by have:=HR.out;omega) (HK.out (by omega)) (fun i x hi=>HM.out i x (by
        have h1:=(ano.1 hi).1;have:=HR.out;simp at h1;omega) hi))
       go_wp2_with fail;go_ret;exact⟨aJ HF.out.symm,rfl⟩
    ·have HF:=hid (show az (c::r)=false by rw[yA,decide_eq_false (by omega)];simp)
     clear tP
     go_in
     go_wp2_with fail;go_ret;exact⟨aJ HF.out.symm,rfl⟩
theorem Rv:SF az 177:=fun l hl=>SZ l hl _ (by decide)
theorem Pj:SF az 225:=fun l hl=>SZ l hl _ (by decide)
theorem Jy:rq aY 178:=fun c=>Bq c _ (by decide)
theorem abg:rq aY 226:=fun c=>Bq c _ (by decide)
theorem Z8:rq aY 279:=fun c=>Bq c _ (by decide)
theorem ag4:rq aY 201:=fun c=>Bq c _ (by decide)
theorem UJ:rq aY 309:=fun c=>Bq c _ (by decide)
theorem adr:rq lV 179:=fun c=>Va c _ (by decide)
theorem ahh:rq lV 333:=fun c=>Va c _ (by decide)
section
variable (op d a b ag:Int) (loc label:Tx) (ai:Int) (w:World)
theorem aqV(hl:loc.length<=9223372036854775807):Calls prog 97 #[vI ⟨1,d,a,b,ag,loc,label,ai⟩] w (ax w (.int .i64 (mW ⟨1,d,a,b,ag,loc,label,ai⟩))):=by
 have hc:dy ⟨1,d,a,b,ag,loc,label,ai⟩=(kQ ⟨1,d,a,b,ag,loc,label,ai⟩&&decide ((⟨1,0,0,0,ag,loc,[],0⟩:Ins)=⟨1,d,a,b,ag,loc,label,ai⟩)):=by
  rw[show decide ((⟨1,0,0,0,ag,loc,[],0⟩:Ins)=⟨1,d,a,b,ag,loc,label,ai⟩)=decide ((⟨1,d,a,b,ag,loc,label,ai⟩:Ins)=⟨1,0,0,0,ag,loc,[],0⟩)from decide_eq_decide.mpr eq_comm];rfl
 have ok:kQ ⟨1,d,a,b,ag,loc,label,ai⟩=(az loc&&aY ag):=by cases k0:az loc<;>cases k1:aY ag<;>simp[kQ,k0,k1]
 have he:mW ⟨1,d,a,b,ag,loc,label,ai⟩=if(((az loc&&aY ag))&&decide ((⟨1,0,0,0,ag,loc,[],0⟩:Ins)=⟨1,d,a,b,ag,loc,label,ai⟩))=true then 0 else 91:=by unfold mW;rw[hc,ok]
 clear hc ok;obtain⟨n,hn⟩: ∃n,n= !decide ((⟨1,0,0,0,ag,loc,[],0⟩:Ins)=⟨1,d,a,b,ag,loc,label,ai⟩):=⟨_,rfl⟩;have vu: ∀w,(binOp .neq 50 (.agg #[.int .i64 1,.int .i64 0,.int .i64 0,.int .i64 0,.int .i64 ag,.string (tx loc),.string ⟨#[]⟩,.int .i64 0]) (.agg #[.int .i64 1,.int .i64 d,.int .i64 a,.int .i64 b,.int .i64 ag,.string (tx loc),.string (tx label),.int .i64 ai])).run prog w= .ok (.bool n) w:=fun w=>by rw[hn];exact jX ⟨1,0,0,0,ag,loc,[],0⟩ ⟨1,d,a,b,ag,loc,label,ai⟩ w
 cases h0:az loc<;>cases h1:aY ag<;>cases hq:decide ((⟨1,0,0,0,ag,loc,[],0⟩:Ins)=⟨1,d,a,b,ag,loc,label,ai⟩)
 all_goals
  rw[hq]at hn;simp only[apZ,apX]at hn;subst hn;rw[hq,h0,h1]at he;have HE:=hid he;replace h0:=hid h0;replace h1:=hid h1;clear he hq;go_in
  go_wp2_with (first|(go_at_call 177;refine(Rv loc hl _).mono ?_;rintro e w' ⟨rfl,rfl⟩;rw[h0.out])|(go_at_call 178;refine(Jy ag _).mono ?_;rintro e w' ⟨rfl,rfl⟩;rw[h1.out]))
  go_ret;exact⟨bJ HE.out.symm,aK⟩
theorem aqW(hl:loc.length<=9223372036854775807):Calls prog 97 #[vI ⟨2,d,a,b,ag,loc,label,ai⟩] w (ax w (.int .i64 (mW ⟨2,d,a,b,ag,loc,label,ai⟩))):=by
 have hc:dy ⟨2,d,a,b,ag,loc,label,ai⟩=(kQ ⟨2,d,a,b,ag,loc,label,ai⟩&&decide ((⟨2,0,a,0,0,loc,[],0⟩:Ins)=⟨2,d,a,b,ag,loc,label,ai⟩)):=by
  rw[show decide ((⟨2,0,a,0,0,loc,[],0⟩:Ins)=⟨2,d,a,b,ag,loc,label,ai⟩)=decide ((⟨2,d,a,b,ag,loc,label,ai⟩:Ins)=⟨2,0,a,0,0,loc,[],0⟩)from decide_eq_decide.mpr eq_comm];rfl
 have ok:kQ ⟨2,d,a,b,ag,loc,label,ai⟩=(az loc&&lV a):=by cases k0:az loc<;>cases k1:lV a<;>simp[kQ,k0,k1]
 have he:mW ⟨2,d,a,b,ag,loc,label,ai⟩=if(((az loc&&lV a))&&decide ((⟨2,0,a,0,0,loc,[],0⟩:Ins)=⟨2,d,a,b,ag,loc,label,ai⟩))=true then 0 else 91:=by unfold mW;rw[hc,ok]
 clear hc ok;obtain⟨n,hn⟩: ∃n,n= !decide ((⟨2,0,a,0,0,loc,[],0⟩:Ins)=⟨2,d,a,b,ag,loc,label,ai⟩):=⟨_,rfl⟩;have vu: ∀w,(binOp .neq 50 (.agg #[.int .i64 2,.int .i64 0,.int .i64 a,.int .i64 0,.int .i64 0,.string (tx loc),.string ⟨#[]⟩,.int .i64 0]) (.agg #[.int .i64 2,.int .i64 d,.int .i64 a,.int .i64 b,.int .i64 ag,.string (tx loc),.string (tx label),.int .i64 ai])).run prog w= .ok (.bool n) w:=fun w=>by rw[hn];exact jX ⟨2,0,a,0,0,loc,[],0⟩ ⟨2,d,a,b,ag,loc,label,ai⟩ w
 cases h0:az loc<;>cases h1:lV a<;>cases hq:decide ((⟨2,0,a,0,0,loc,[],0⟩:Ins)=⟨2,d,a,b,ag,loc,label,ai⟩)
 all_goals
  rw[hq]at hn;simp only[apZ,apX]at hn;subst hn;rw[hq,h0,h1]at he;have HE:=hid he;replace h0:=hid h0;replace h1:=hid h1;clear he hq;go_in
  go_wp2_with (first|(go_at_call 177;refine(Rv loc hl _).mono ?_;rintro e w' ⟨rfl,rfl⟩;rw[h0.out])|(go_at_call 179;refine(adr a _).mono ?_;rintro e w' ⟨rfl,rfl⟩;rw[h1.out]))
  go_ret;exact⟨bJ HE.out.symm,aK⟩
theorem aqX(hl:loc.length<=9223372036854775807):Calls prog 97 #[vI ⟨3,d,a,b,ag,loc,label,ai⟩] w (ax w (.int .i64 (mW ⟨3,d,a,b,ag,loc,label,ai⟩))):=by
 have hc:dy ⟨3,d,a,b,ag,loc,label,ai⟩=(kQ ⟨3,d,a,b,ag,loc,label,ai⟩&&decide ((⟨3,d,0,0,0,loc,[],0⟩:Ins)=⟨3,d,a,b,ag,loc,label,ai⟩)):=by
  rw[show decide ((⟨3,d,0,0,0,loc,[],0⟩:Ins)=⟨3,d,a,b,ag,loc,label,ai⟩)=decide ((⟨3,d,a,b,ag,loc,label,ai⟩:Ins)=⟨3,d,0,0,0,loc,[],0⟩)from decide_eq_decide.mpr eq_comm];rfl
 have ok:kQ ⟨3,d,a,b,ag,loc,label,ai⟩=(az loc&&lV d):=by cases k0:az loc<;>cases k1:lV d<;>simp[kQ,k0,k1]
 have he:mW ⟨3,d,a,b,ag,loc,label,ai⟩=if(((az loc&&lV d))&&decide ((⟨3,d,0,0,0,loc,[],0⟩:Ins)=⟨3,d,a,b,ag,loc,label,ai⟩))=true then 0 else 91:=by unfold mW;rw[hc,ok]
 clear hc ok;obtain⟨n,hn⟩: ∃n,n= !decide ((⟨3,d,0,0,0,loc,[],0⟩:Ins)=⟨3,d,a,b,ag,loc,label,ai⟩):=⟨_,rfl⟩;have vu: ∀w,(binOp .neq 50 (.agg #[.int .i64 3,.int .i64 d,.int .i64 0,.int .i64 0,.int .i64 0,.string (tx loc),.string ⟨#[]⟩,.int .i64 0]) (.agg #[.int .i64 3,.int .i64 d,.int .i64 a,.int .i64 b,.int .i64 ag,.string (tx loc),.string (tx label),.int .i64 ai])).run prog w= .ok (.bool n) w:=fun w=>by rw[hn];exact jX ⟨3,d,0,0,0,loc,[],0⟩ ⟨3,d,a,b,ag,loc,label,ai⟩ w
 cases h0:az loc<;>cases h1:lV d<;>cases hq:decide ((⟨3,d,0,0,0,loc,[],0⟩:Ins)=⟨3,d,a,b,ag,loc,label,ai⟩)
 all_goals
  rw[hq]at hn;simp only[apZ,apX]at hn;subst hn;rw[hq,h0,h1]at he;have HE:=hid he;replace h0:=hid h0;replace h1:=hid h1;clear he hq;go_in
  go_wp2_with (first|(go_at_call 177;refine(Rv loc hl _).mono ?_;rintro e w' ⟨rfl,rfl⟩;rw[h0.out])|(go_at_call 179;refine(adr d _).mono ?_;rintro e w' ⟨rfl,rfl⟩;rw[h1.out]))
  go_ret;exact⟨bJ HE.out.symm,aK⟩
theorem aqY(hl:loc.length<=9223372036854775807):Calls prog 97 #[vI ⟨4,d,a,b,ag,loc,label,ai⟩] w (ax w (.int .i64 (mW ⟨4,d,a,b,ag,loc,label,ai⟩))):=by
 have hc:dy ⟨4,d,a,b,ag,loc,label,ai⟩=(kQ ⟨4,d,a,b,ag,loc,label,ai⟩&&decide ((⟨4,d,0,0,ag,[],[],0⟩:Ins)=⟨4,d,a,b,ag,loc,label,ai⟩)):=by
  rw[show decide ((⟨4,d,0,0,ag,[],[],0⟩:Ins)=⟨4,d,a,b,ag,loc,label,ai⟩)=decide ((⟨4,d,a,b,ag,loc,label,ai⟩:Ins)=⟨4,d,0,0,ag,[],[],0⟩)from decide_eq_decide.mpr eq_comm];rfl
 have ok:kQ ⟨4,d,a,b,ag,loc,label,ai⟩=(lV d&&aY ag):=by cases k0:lV d<;>cases k1:aY ag<;>simp[kQ,k0,k1]
 have he:mW ⟨4,d,a,b,ag,loc,label,ai⟩=if(((lV d&&aY ag))&&decide ((⟨4,d,0,0,ag,[],[],0⟩:Ins)=⟨4,d,a,b,ag,loc,label,ai⟩))=true then 0 else 91:=by unfold mW;rw[hc,ok]
 clear hc ok;obtain⟨n,hn⟩: ∃n,n= !decide ((⟨4,d,0,0,ag,[],[],0⟩:Ins)=⟨4,d,a,b,ag,loc,label,ai⟩):=⟨_,rfl⟩;have vu: ∀w,(binOp .neq 50 (.agg #[.int .i64 4,.int .i64 d,.int .i64 0,.int .i64 0,.int .i64 ag,.string ⟨#[]⟩,.string ⟨#[]⟩,.int .i64 0]) (.agg #[.int .i64 4,.int .i64 d,.int .i64 a,.int .i64 b,.int .i64 ag,.string (tx loc),.string (tx label),.int .i64 ai])).run prog w= .ok (.bool n) w:=fun w=>by rw[hn];exact jX ⟨4,d,0,0,ag,[],[],0⟩ ⟨4,d,a,b,ag,loc,label,ai⟩ w
 cases h0:lV d<;>cases h1:aY ag<;>cases hq:decide ((⟨4,d,0,0,ag,[],[],0⟩:Ins)=⟨4,d,a,b,ag,loc,label,ai⟩)
 all_goals
  rw[hq]at hn;simp only[apZ,apX]at hn;subst hn;rw[hq,h0,h1]at he;have HE:=hid he;replace h0:=hid h0;replace h1:=hid h1;clear he hq;go_in
  go_wp2_with (first|(go_at_call 179;refine(adr d _).mono ?_;rintro e w' ⟨rfl,rfl⟩;rw[h0.out])|(go_at_call 178;refine(Jy ag _).mono ?_;rintro e w' ⟨rfl,rfl⟩;rw[h1.out]))
  go_ret;exact⟨bJ HE.out.symm,aK⟩
theorem aqZ(hl:loc.length<=9223372036854775807):Calls prog 97 #[vI ⟨5,d,a,b,ag,loc,label,ai⟩] w (ax w (.int .i64 (mW ⟨5,d,a,b,ag,loc,label,ai⟩))):=by
 have hc:dy ⟨5,d,a,b,ag,loc,label,ai⟩=(kQ ⟨5,d,a,b,ag,loc,label,ai⟩&&decide ((⟨5,0,0,0,0,[],[],0⟩:Ins)=⟨5,d,a,b,ag,loc,label,ai⟩)):=by
  rw[show decide ((⟨5,0,0,0,0,[],[],0⟩:Ins)=⟨5,d,a,b,ag,loc,label,ai⟩)=decide ((⟨5,d,a,b,ag,loc,label,ai⟩:Ins)=⟨5,0,0,0,0,[],[],0⟩)from decide_eq_decide.mpr eq_comm];rfl
 have ok:kQ ⟨5,d,a,b,ag,loc,label,ai⟩=true:=by simp[kQ]
 have he:mW ⟨5,d,a,b,ag,loc,label,ai⟩=if((true)&&decide ((⟨5,0,0,0,0,[],[],0⟩:Ins)=⟨5,d,a,b,ag,loc,label,ai⟩))=true then 0 else 91:=by unfold mW;rw[hc,ok]
 clear hc ok;obtain⟨n,hn⟩: ∃n,n= !decide ((⟨5,0,0,0,0,[],[],0⟩:Ins)=⟨5,d,a,b,ag,loc,label,ai⟩):=⟨_,rfl⟩;have vu: ∀w,(binOp .neq 50 (.agg #[.int .i64 5,.int .i64 0,.int .i64 0,.int .i64 0,.int .i64 0,.string ⟨#[]⟩,.string ⟨#[]⟩,.int .i64 0]) (.agg #[.int .i64 5,.int .i64 d,.int .i64 a,.int .i64 b,.int .i64 ag,.string (tx loc),.string (tx label),.int .i64 ai])).run prog w= .ok (.bool n) w:=fun w=>by rw[hn];exact jX ⟨5,0,0,0,0,[],[],0⟩ ⟨5,d,a,b,ag,loc,label,ai⟩ w
 cases hq:decide ((⟨5,0,0,0,0,[],[],0⟩:Ins)=⟨5,d,a,b,ag,loc,label,ai⟩)
 all_goals
  rw[hq]at hn;simp only[apZ,apX]at hn;subst hn;rw[hq]at he;have HE:=hid he;clear he hq;go_in;go_wp2_with fail;go_ret;exact⟨bJ HE.out.symm,aK⟩
theorem aq0(ho:op<1\/5<op):Calls prog 97 #[vI ⟨op,d,a,b,ag,loc,label,ai⟩] w (ax w (.int .i64 (mW ⟨op,d,a,b,ag,loc,label,ai⟩))):=by
 have hc:dy ⟨op,d,a,b,ag,loc,label,ai⟩=false:=by
  unfold dy kQ;simp only;rw[if_neg (by omega),if_neg (by omega),if_neg (by omega),if_neg (by omega),decide_eq_false (by omega)];rfl
 have HE:=hid (Pb hc);clear hc;have z1:(op==1)=false:=by simp;omega
 have z2:(op==2)=false:=by simp;omega
 have z3:(op==3)=false:=by simp;omega
 have z4:(op==4)=false:=by simp;omega
 have z5:(op==5)=false:=by simp;omega
 clear ho;go_in;go_wp2_with fail;go_ret;exact⟨bJ HE.out.symm,aK⟩
end
theorem FK(i:Ins)(hl:i.loc.length<=9223372036854775807)(w:World):Calls prog 97 #[vI i] w (ax w (.int .i64 (mW i))):=by
 obtain⟨op,d,a,b,ag,loc,label,ai⟩:=i
 by_cases h1:op=1
 ·subst h1;exact aqV _ _ _ _ _ _ _ _ hl
 by_cases h2:op=2
 ·subst h2;exact aqW _ _ _ _ _ _ _ _ hl
 by_cases h3:op=3
 ·subst h3;exact aqX _ _ _ _ _ _ _ _ hl
 by_cases h4:op=4
 ·subst h4;exact aqY _ _ _ _ _ _ _ _ hl
 by_cases h5:op=5
 ·subst h5;exact aqZ _ _ _ _ _ _ _ _ hl
 exact aq0 _ _ _ _ _ _ _ _ _ (by omega)
attribute [local go_sem high] qa jX
theorem qD(a b t:Tx)(ht:a++b=t)(h:t.length<=1000): ∀w,(anY .add (tx a) (tx b)).run prog w= .ok (.string (tx t)) w:=by
 subst ht;exact cQ a b (by simp at h;omega)
theorem NB{va vb:ByteArray}(a b:Tx)(ha:tx a=va)(hb:tx b=vb)(K:Nat)(h:a.length+b.length<=K)(hK:K<=1000): ∃t:Tx,a++b=t/\t.length<=K/\ ∀w,(anY .add va vb).run prog w= .ok (.string (tx t)) w:=by
 subst ha hb;exact⟨_,rfl,by simpa using h,qD a b _ rfl (by simp;omega)⟩
theorem GU{va vb vc:ByteArray}(a b c:Tx)(ha:tx a=va)(hb:tx b=vb)(hc:tx c=vc)(h:a.length+b.length+c.length<=1000): ∃t1 t2:Tx,a++b++c=t2/\t2.length=a.length+b.length+c.length/\(∀w,(anY .add va vb).run prog w= .ok (.string (tx t1)) w)/\ ∀w,(anY .add (tx t1) vc).run prog w= .ok (.string (tx t2)) w:=by
 subst ha hb hc;exact⟨_,_,rfl,by simp;omega,qD a b _ rfl (by simp;omega),qD _ c _ rfl (by simp;omega)⟩
theorem rF{va vb vc vd:ByteArray}(a b c d:Tx)(ha:tx a=va)(hb:tx b=vb)(hc:tx c=vc)(hd:tx d=vd)(h:a.length+b.length+c.length+d.length<=1000): ∃t1 t2 t3:Tx,a++b++c++d=t3/\t3.length=a.length+b.length+c.length+d.length/\(∀w,(anY .add va vb).run prog w= .ok (.string (tx t1)) w)/\(∀w,(anY .add (tx t1) vc).run prog w= .ok (.string (tx t2)) w)/\ ∀w,(anY .add (tx t2) vd).run prog w= .ok (.string (tx t3)) w:=by
 obtain⟨t1,t2,ht,hl,c1,c2⟩:=GU a b c ha hb hc (by omega);subst hd ht;exact⟨_,_,_,rfl,by simp;omega,c1,c2,qD _ d _ rfl (by simp;omega)⟩
theorem vk{va vb vc vd ve:ByteArray}(a b c d e:Tx)(ha:tx a=va)(hb:tx b=vb)(hc:tx c=vc)(hd:tx d=vd)(he:tx e=ve)(h:a.length+b.length+c.length+d.length+e.length<=1000): ∃t1 t2 t3 t4:Tx,a++b++c++d++e=t4/\t4.length=a.length+b.length+c.length+d.length+e.length/\(∀w,(anY .add va vb).run prog w= .ok (.string (tx t1)) w)/\(∀w,(anY .add (tx t1) vc).run prog w= .ok (.string (tx t2)) w)/\(∀w,(anY .add (tx t2) vd).run prog w= .ok (.string (tx t3)) w)/\ ∀w,(anY .add (tx t3) ve).run prog w= .ok (.string (tx t4)) w:=by
 obtain⟨t1,t2,t3,ht,hl,c1,c2,c3⟩:=rF a b c d ha hb hc hd (by omega);subst he ht;exact⟨_,_,_,_,rfl,by simp;omega,c1,c2,c3,qD _ e _ rfl (by simp;omega)⟩
theorem rG{va vb vc vd ve vf:ByteArray}(a b c d e f:Tx)(ha:tx a=va)(hb:tx b=vb)(hc:tx c=vc)(hd:tx d=vd)(he:tx e=ve)(hf:tx f=vf)(h:a.length+b.length+c.length+d.length+e.length+f.length<=1000): ∃t1 t2 t3 t4 t5:Tx,a++b++c++d++e++f=t5/\(∀w,(anY .add va vb).run prog w= .ok (.string (tx t1)) w)/\(∀w,(anY .add (tx t1) vc).run prog w= .ok (.string (tx t2)) w)/\(∀w,(anY .add (tx t2) vd).run prog w= .ok (.string (tx t3)) w)/\(∀w,(anY .add (tx t3) ve).run prog w= .ok (.string (tx t4)) w)/\ ∀w,(anY .add (tx t4) vf).run prog w= .ok (.string (tx t5)) w:=by
 obtain⟨t1,t2,t3,t4,ht,hl,c1,c2,c3,c4⟩:=vk a b c d e ha hb hc hd he (by omega);subst hf ht;exact⟨_,_,_,_,_,rfl,c1,c2,c3,c4,qD _ f _ rfl (by simp;omega)⟩
theorem Kq(z:Int)(h:bX z=true)(w:World):Calls prog 123 #[.int .i64 z] w fun e w'=>e= .returned (.tuple #[.string (tx (rT z)),.int .i64 0])/\w=w':=by
 obtain⟨n,hn,rfl⟩:=yO h;exact EN n hn w
theorem KC(z:Int)(h:bX z=true)(w:World):Calls prog 130 #[.int .i64 z] w fun e w'=>e= .returned (.tuple #[.string (tx (rT z)),.int .i64 0])/\w=w':=by
 obtain⟨n,hn,rfl⟩:=yO h;exact U1 n hn w
theorem yJ{z:Int}(h:bX z=true):(rT z).length<=5:=by
 obtain⟨n,hn,rfl⟩:=yO h;unfold rT;simpa using kU hn
theorem xD{i:Ins}(h:aU i=true):dn i=true/\i=kE i/\bX i.d=true/\bX i.a=true/\bX i.b=true:=by
 unfold aU at h;simp only[am6,decide_eq_true_eq]at h;exact⟨h.1.1.1.1,h.1.1.1.2,h.1.1.2,h.1.2,h.2⟩
theorem N6{i:Ins}(h:aU i=true):(6<=i.op/\i.op<=13)/\(i.op=8-> -2048<=i.ag/\i.ag<=2047)/\(i.op=13->2<=i.ai/\i.ai<=11)/\i.label.length<=32:=by
 obtain⟨ho,hw, -⟩:=xD h
 have hl:i.op=11\/i.op=12\/i.label=[]:=by
  by_cases h1:i.op=11\/i.op=12
  ·omega
  ·refine .inr (.inr ?_)
   rw[hw];unfold kE
   repeat' split
   all_goals first|rfl|omega
 unfold dn at ho
 by_cases h1:i.op=11\/i.op=12
 ·rw[if_neg (by omega),if_pos h1]at ho
  exact⟨by omega,by omega,by omega,(iU ho).2⟩
 ·have hl:i.label.length<=32:=by
   rw[(hl.resolve_left (fun h=>h1 (.inl h))).resolve_left (fun h=>h1 (.inr h))];simp
  refine⟨?_,?_,?_,hl⟩
  all_goals
   split at ho
   ·simp only[am6,decide_eq_true_eq]at ho;omega
   ·split at ho<;>(simp only[am6,decide_eq_true_eq]at ho;omega)
theorem agL(i:Ins)(h:aU i=true)(w:World)(g:Gl w):Calls prog 208 #[vI i] w (ax w (.tuple #[.string (tx (bV i)),.int .i64 0])):=by
 obtain⟨-, -, hd,ha,hb⟩:=xD h;obtain⟨ho,hi,hf,hl⟩:=N6 h;have E1:=al w (eC i);have b0:=dK.new w i;have g:=g.below E1;have HE:=hid (rN h);have CK:=hid (wj i (by omega));have ld:=yJ hd;have Rd:=hid hd;have la:=yJ ha;have Ra:=hid ha;have lb:=yJ hb;have Rb:=hid hb;obtain⟨op,d,a,b,ag,loc,label,ai⟩:=i;clear h hd ha hb;have li:=Dy ag;simp only at ho hi hf hl ld la lb Rd Ra Rb;have hop:op=6\/op=7\/op=8\/op=9\/op=10\/op=11\/op=12\/op=13:=by omega
 clear ho;rcases hop with rfl|rfl|rfl|rfl|rfl|rfl|rfl|rfl
 focus
  obtain⟨t1,t2,t3,t4,ht,-, c1,c2,c3,c4⟩:=vk (va:=⟨#[108,119,32]⟩) (vc:=⟨#[44,48,40]⟩) (ve:=⟨#[41]⟩) [108,119,32] (rT d) [44,48,40] (rT a) [41] rfl rfl rfl rfl rfl (by simp only[ans,anX];omega);have HP:=hid (show bV ⟨6,d,a,b,ag,loc,label,ai⟩=t4 from ht);clear ht
 rotate_left
 focus
  obtain⟨t1,t2,t3,t4,ht,-, c1,c2,c3,c4⟩:=vk (va:=⟨#[115,119,32]⟩) (vc:=⟨#[44,48,40]⟩) (ve:=⟨#[41]⟩) [115,119,32] (rT b) [44,48,40] (rT a) [41] rfl rfl rfl rfl rfl (by simp only[ans,anX];omega);have HP:=hid (show bV ⟨7,d,a,b,ag,loc,label,ai⟩=t4 from ht);clear ht
 rotate_left
 focus
  obtain⟨h1,h2⟩:=hi rfl;have HI:=hid (Ba (n:=ag) (by omega) (by omega));obtain⟨t1,t2,t3,t4,t5,ht,c1,c2,c3,c4,c5⟩:=rG (va:=⟨#[111,114,105,32]⟩) (vc:=⟨#[44]⟩) (ve:=⟨#[44]⟩) [111,114,105,32] (rT d) [44] (rT a) [44] (gD ag) rfl rfl rfl rfl rfl rfl (by simp only[ans,anX];omega);have HP:=hid (show bV ⟨8,d,a,b,ag,loc,label,ai⟩=t5 from ht);clear ht
 rotate_left
 focus
  obtain⟨t1,t2,t3,t4,t5,ht,c1,c2,c3,c4,c5⟩:=rG (va:=⟨#[120,111,114,32]⟩) (vc:=⟨#[44]⟩) (ve:=⟨#[44]⟩) [120,111,114,32] (rT d) [44] (rT a) [44] (rT b) rfl rfl rfl rfl rfl rfl (by simp only[ans,anX];omega);have HP:=hid (show bV ⟨9,d,a,b,ag,loc,label,ai⟩=t5 from ht);clear ht
 rotate_left
 focus
  obtain⟨t1,t2,t3,t4,t5,ht,c1,c2,c3,c4,c5⟩:=rG (va:=⟨#[97,100,100,32]⟩) (vc:=⟨#[44]⟩) (ve:=⟨#[44]⟩) [97,100,100,32] (rT d) [44] (rT a) [44] (rT b) rfl rfl rfl rfl rfl rfl (by simp only[ans,anX];omega);have HP:=hid (show bV ⟨10,d,a,b,ag,loc,label,ai⟩=t5 from ht);clear ht
 rotate_left
 focus
  obtain⟨t1,t2,t3,t4,t5,ht,c1,c2,c3,c4,c5⟩:=rG (va:=⟨#[98,110,101,32]⟩) (vc:=⟨#[44]⟩) (ve:=⟨#[44]⟩) [98,110,101,32] (rT a) [44] (rT b) [44] label rfl rfl rfl rfl rfl rfl (by simp only[ans,anX];omega);have HP:=hid (show bV ⟨11,d,a,b,ag,loc,label,ai⟩=t5 from ht);clear ht
 rotate_left
 focus
  obtain⟨t1,ht,-, c1⟩:=NB (vb:=⟨#[58]⟩) label [58] rfl rfl 100 (by simp only[ans,anX];omega) (by omega);have HP:=hid (show bV ⟨12,d,a,b,ag,loc,label,ai⟩=t1 from ht);clear ht
 rotate_left
 focus
  obtain⟨h1,h2⟩:=hf rfl;have HP:=hid (show bV ⟨13,d,a,b,ag,loc,label,ai⟩=xP ai from rfl);have PF:=hid (agh ai h1 h2);generalize xP ai=t1 at*
 rotate_left
 all_goals
  clear hi hf;go_in;go_wp2_with fail;refine(CK.out _).mono ?_;rintro x w1 ⟨rfl,E⟩;rw[HE.out];have bb:=b0.below E;have g:=g.below E;have B:=E1.trans (E.mono E1.size);obtain⟨q0,q1,q2,q3,q4,q5,q6,q7⟩:=bb.cells;clear b0 bb E1 E;go_wp2_with fail;refine(Kq d Rd.out _).mono ?_;rintro x w2 ⟨rfl,rfl⟩;go_wp2_with fail;refine(Kq a Ra.out _).mono ?_;rintro x w2 ⟨rfl,rfl⟩;go_wp2_with fail;refine(Kq b Rb.out _).mono ?_;rintro x w2 ⟨rfl,rfl⟩;go_wp2_with fail
 rotate_left 2
 focus
  refine(jV ag (by omega) (by omega) _ g).mono ?_;rintro x w3 ⟨rfl,E⟩;rw[HI.out];have B:=B.trans (E.mono B.size);go_wp2_with fail
 rotate_left 5
 focus
  refine(PF.out _).mono ?_;rintro x w3 ⟨rfl,E⟩;have B:=B.trans (E.mono B.size);go_wp2_with fail
 all_goals
  go_ret2
  exact⟨yQ (by rw[HP.out]) rfl,B⟩
theorem agK(i:Ins)(hl:i.label.length<=9223372036854775807)(h:aU i=false)(w:World):Calls prog 208 #[vI i] w (ax w (.tuple #[.string (tx []),.int .i64 91])):=by
 have E1:=al w (eC i);have b0:=dK.new w i;have HE:=hid (gS h);clear h;go_in;go_wp2_with fail;refine(wj i hl _).mono ?_;rintro x w1 ⟨rfl,E⟩;rw[HE.out];go_wp2_with fail
 go_ret2
 exact⟨rfl,E1.trans (E.mono E1.size)⟩
end Go.Proofs.YtkbbgjloifmmbaaGreatDoor
namespace Go.Proofs.YtkbbgjloifmmbaaGreatDoor
open _root_.Go.Proofs.Tryz
open _root_.Bool renaming and_eq_true->am6,not_false->apX,not_true->apZ
open _root_.List renaming length_cons->ans,length_nil->anX,length_append->aoE,flatMap_append->aqi,mem_cons->amY,getD_eq_getElem?_getD->apo,getElem?_eq_some_iff->ano,all_eq_true->anq,getElem?_eq_getElem->amK,take_of_length_le->apq,mem_of_mem_take->aqJ,mem_singleton->anw,flatMap_cons->aqu,length_take->aoc,mem_append->anu
open _root_.Go.Op renaming stringOp->anY
open _root_.Go.Lib renaming decDigits->anm,itoa->anj
open _root_.UInt8 renaming ofNat->anP,le_iff_toNat_le->ant
open _root_.Nat renaming strongRecOn->aqK,mod_lt->aqL
open Go.RowKit Go.Sort
theorem kB{P:Program}{f:FuncId}{args:Array Value}{w:World}{v:Value}(h:Calls P f args w (ax w v)):Calls P f args w fun e w'=>e= .returned v/\Below w.heap.size w w':=h
theorem mI(k:Nat):rX (k:Int)=aO k:=by unfold rX;rw[Int.toNat_natCast]
theorem G6{i:Ins}(h:dy i=true):kQ i=true/\i=qL i:=by
 unfold dy at h;simpa only[am6,decide_eq_true_eq]using h
theorem nZ{n:Int}(h:aY n=true): -2147483648<=n/\n<=2147483647:=by
 unfold aY at h;simpa only[am6,decide_eq_true_eq]using h
theorem qm{n:Int}(h:aY n=true):(anj n).length<=21:=Lib.itoa_length_le n (by have:=nZ h;omega) (by have:=nZ h;omega)
theorem alG(k:Nat)(h:k<15)(w:World)(g:Gl w):Calls prog 122 #[.int .i64 k] w (sY w (.tuple #[.string (tx (aO k)),.int .i64 0])):=by
 have c0:=g.regs k h;have h0:(0:Int)<=(k:Int):=by omega
 have h1:(k:Int)<15:=by omega
 go_in;go_wp2_with fail
 go_ret2
 exact⟨rfl,(by repeat(first|exact QW.refl _|refine QW.d ?_ _))⟩
theorem alE(i:Ins)(hl:i.loc.length<=9223372036854775807)(hc:dy i=false)(w:World):
 Calls prog 207 #[vI i] w (ax w (.tuple #[.string (tx []),.int .i64 91])):=by
 have E1:=al w (eC i);have b0:=dK.new w i;have HE:=hid (Pb hc);have XC:=hid (FK i hl);clear hc hl;go_in;go_wp2_with fail;refine(XC.out _).mono ?_;rintro x w1 ⟨rfl,E⟩;rw[HE.out];have B:=E1.trans (E.mono E1.size);go_wp2_with fail
 go_ret2
 exact⟨rfl,B⟩
theorem Kc{i:Ins}(h:dy i=true):(∃ag loc,i=⟨1,0,0,0,ag,loc,[],0⟩/\az loc=true/\aY ag=true)\/(∃(a:Nat) (loc:Tx),i=⟨2,0,(a:Int),0,0,loc,[],0⟩/\az loc=true/\a<15)\/(∃(a:Nat) (loc:Tx),i=⟨3,(a:Int),0,0,0,loc,[],0⟩/\az loc=true/\a<15)\/(∃(a:Nat) (ag:Int),i=⟨4,(a:Int),0,0,ag,[],[],0⟩/\aY ag=true/\a<15)\/i=⟨5,0,0,0,0,[],[],0⟩:=by
 obtain⟨ho,hw⟩:=G6 h;unfold kQ at ho;unfold qL at hw
 by_cases h1:i.op=1
 ·rw[if_pos h1]at ho hw
  simp only[am6]at ho;exact .inl ⟨_,_,hw,ho.1,ho.2⟩
 rw[if_neg h1]at ho hw
 by_cases h2:i.op=2
 ·rw[if_pos h2]at ho hw
  simp only[am6]at ho;obtain⟨k,hk,e⟩:=qC ho.2;rw[e]at hw;exact .inr (.inl ⟨k,_,hw,ho.1,hk⟩)
 rw[if_neg h2]at ho hw
 by_cases h3:i.op=3
 ·rw[if_pos h3]at ho hw
  simp only[am6]at ho;obtain⟨k,hk,e⟩:=qC ho.2;rw[e]at hw;exact .inr (.inr (.inl ⟨k,_,hw,ho.1,hk⟩))
 rw[if_neg h3]at ho hw
 by_cases h4:i.op=4
 ·rw[if_pos h4]at ho hw
  simp only[am6]at ho;obtain⟨k,hk,e⟩:=qC ho.1;rw[e]at hw;exact .inr (.inr (.inr (.inl ⟨k,_,hw,ho.2,hk⟩)))
 rw[if_neg h4]at ho hw;simp only[decide_eq_true_eq]at ho;rw[ho]at hw;exact .inr (.inr (.inr (.inr hw)))
theorem To{i:Ins}(h:dy i=true):i.loc.length<=9223372036854775807:=by
 rcases Kc h with⟨ag,loc,rfl,hn, -⟩|⟨a,loc,rfl,hn, -⟩|⟨a,loc,rfl,hn, -⟩|⟨a,ag,rfl,-, -⟩|rfl
 iterate 3 (focus (have:=(iU hn).2;simp;omega))
 all_goals simp
theorem alF(i:Ins)(hc:dy i=true)(w:World)(g:Gl w):
 Calls prog 207 #[vI i] w (ax w (.tuple #[.string (tx (dJ i)),.int .i64 0])):=by
 have E1:=al w (eC i);have b0:=dK.new w i;have g:=g.below E1;have HE:=hid (H8 hc);have CK:=hid (FK i (To hc));rcases Kc hc with⟨ag,loc,rfl,hn,hb⟩|⟨a,loc,rfl,hn,ha⟩|⟨a,loc,rfl,hn,ha⟩|⟨a,ag,rfl,hb,ha⟩|rfl
 focus
  have ll:=(iU hn).2;have li:=qm hb;have II:=nZ hb;obtain⟨t1,t2,t3,ht,-, c1,c2,c3⟩:=rF (va:=⟨#[77,79,86,32,91]⟩) (vc:=⟨#[93,44,36]⟩) [77,79,86,32,91] loc [93,44,36] (anj ag) rfl rfl rfl rfl (by simp only[ans,anX];omega);have HP:=hid (show dJ ⟨1,0,0,0,ag,loc,[],0⟩=t3 by rw[<-ht];rfl);clear ht hn hb
 rotate_left
 focus
  have ll:=(iU hn).2;have la:=pI ha;have h0:(0:Int)<=(a:Int):=by omega
  have h1:(a:Int)<15:=by omega
  have HA:=hid ha;obtain⟨t1,t2,t3,ht,-, c1,c2,c3⟩:=rF (va:=⟨#[77,79,86,32,91]⟩) (vc:=⟨#[93,44]⟩) [77,79,86,32,91] loc [93,44] (aO a) rfl rfl rfl rfl (by simp only[ans,anX];omega);have HP:=hid (show dJ ⟨2,0,(a:Int),0,0,loc,[],0⟩=t3 by rw[<-ht];simp[dJ,mI]);clear ht hn ha
 rotate_left
 focus
  have ll:=(iU hn).2;have la:=pI ha;have h0:(0:Int)<=(a:Int):=by omega
  have h1:(a:Int)<15:=by omega
  have HA:=hid ha;obtain⟨t1,t2,t3,t4,ht,-, c1,c2,c3,c4⟩:=vk (va:=⟨#[77,79,86,32]⟩) (vc:=⟨#[44,91]⟩) (ve:=⟨#[93]⟩) [77,79,86,32] (aO a) [44,91] loc [93] rfl rfl rfl rfl rfl (by simp only[ans,anX];omega);have HP:=hid (show dJ ⟨3,(a:Int),0,0,0,loc,[],0⟩=t4 by rw[<-ht];simp[dJ,mI]);clear ht hn ha
 rotate_left
 focus
  have li:=qm hb;have II:=nZ hb;have la:=pI ha;have h0:(0:Int)<=(a:Int):=by omega
  have h1:(a:Int)<15:=by omega
  have HA:=hid ha;obtain⟨t1,t2,t3,ht,-, c1,c2,c3⟩:=rF (va:=⟨#[77,79,86,32]⟩) (vc:=⟨#[44,36]⟩) [77,79,86,32] (aO a) [44,36] (anj ag) rfl rfl rfl rfl (by simp only[ans,anX];omega);have HP:=hid (show dJ ⟨4,(a:Int),0,0,ag,[],[],0⟩=t3 by rw[<-ht];simp[dJ,mI]);clear ht hb ha
 rotate_left
 all_goals
  clear hc;go_in;go_wp2_with fail;refine(CK.out _).mono ?_;rintro x w1 ⟨rfl,E⟩;rw[HE.out];have bb:=b0.below E;have g:=g.below E;have B:=E1.trans (E.mono E1.size);obtain⟨q0,q1,q2,q3,q4,q5,q6,q7⟩:=bb.cells;clear b0 E1 E CK HE;go_wp2_with fail
 focus
  go_ret2
  exact⟨rfl,B⟩
 all_goals
  (try have cA:=fun(d:Nat) (os:Array Obj)=>Calls.regrown_of (kB (jV ag (by omega) (by omega) (grow (redrawn w1 d) os) (g.below (below_regrown w1 d os)))))
  (try have q9:=cell_regrown (g.regs a HA.out))
  have q1:=cell_regrown q1;have q2:=cell_regrown q2;have q4:=cell_regrown q4;have q5:=cell_regrown q5;clear bb;refine wp_region_quiet_below (by kernel_rfl) (by kernel_rfl) ?_
  repeat(go_big_quiet_step (exact cA _ _))
  refine wpQuiet_nil ?_;intro _ hw';obtain⟨⟨dq,aV⟩,hw''⟩:=hw';subst hw'';have jI:=below_regrown w1 dq aV;have EZ:=B.trans (jI.mono B.size);generalize grow (redrawn w1 dq) aV=wq at*;go_wp2_with fail
  go_ret2
  exact⟨yQ (by rw[HP.out]) rfl,EZ⟩
end Go.Proofs.YtkbbgjloifmmbaaGreatDoor
