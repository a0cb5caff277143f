/- What ReadPiecesP leans on, part 18. -/
import Derived.Test.YtkbbgjloifmmbaaGreatDoorRp7
set_option linter.unusedVariables false
set_option maxRecDepth 100000
set_option maxHeartbeats 1600000
namespace Go.Proofs.YtkbbgjloifmmbaaGreatDoor
open Go.RowKit
theorem byte_eq{x:UInt8}(n:Nat)(hn:n<256):((x.toNat:Int)==(n:Int))=(x==UInt8.ofNat n):=by
 rw[Bool.eq_iff_iff];simp only[beq_iff_eq]
 constructor
 ·intro h;exact UInt8.toNat_inj.1 (by rw[UInt8.toNat_ofNat'];omega)
 ·rintro rfl;rw[UInt8.toNat_ofNat'];omega
theorem blank4{x:UInt8}(h:blankC x=true):((x.toNat:Int)==32)=true\/(((x.toNat:Int)==32)=false/\((x.toNat:Int)==9)=true)\/(((x.toNat:Int)==32)=false/\((x.toNat:Int)==9)=false/\((x.toNat:Int)==10)=true)\/(((x.toNat:Int)==32)=false/\((x.toNat:Int)==9)=false/\((x.toNat:Int)==10)=false/\((x.toNat:Int)==13)=true):=by
 unfold blankC at h;have a:=byte_eq (x:=x) 32 (by decide);have b:=byte_eq (x:=x) 9 (by decide);have c:=byte_eq (x:=x) 10 (by decide);have d:=byte_eq (x:=x) 13 (by decide);have a':((x.toNat:Int)==32)=(x==32):=a;have b':((x.toNat:Int)==9)=(x==9):=b;have c':((x.toNat:Int)==10)=(x==10):=c;have d':((x.toNat:Int)==13)=(x==13):=d;rw[a',b',c',d']
 revert h
 cases(x==32)<;>cases(x==9)<;>cases(x==10)<;>cases(x==13)<;>simp
theorem blank4n{x:UInt8}(h:blankC x=false):((x.toNat:Int)==32)=false/\((x.toNat:Int)==9)=false/\((x.toNat:Int)==10)=false/\((x.toNat:Int)==13)=false:=by
 unfold blankC at h;have a':((x.toNat:Int)==32)=(x==32):=byte_eq (x:=x) 32 (by decide);have b':((x.toNat:Int)==9)=(x==9):=byte_eq (x:=x) 9 (by decide);have c':((x.toNat:Int)==10)=(x==10):=byte_eq (x:=x) 10 (by decide);have d':((x.toNat:Int)==13)=(x==13):=byte_eq (x:=x) 13 (by decide);rw[a',b',c',d']
 revert h
 cases(x==32)<;>cases(x==9)<;>cases(x==10)<;>cases(x==13)<;>simp
theorem name_or{x:UInt8}(h:nameC x=true):letterC x=true\/(letterC x=false/\digitC x=true)\/(letterC x=false/\digitC x=false/\((x.toNat:Int)==95)=true):=by
 unfold nameC at h;have a':((x.toNat:Int)==95)=(x==95):=byte_eq (x:=x) 95 (by decide);rw[a']
 revert h
 cases letterC x<;>cases digitC x<;>cases(x==95)<;>simp
theorem name_nor{x:UInt8}(h:nameC x=false):letterC x=false/\digitC x=false/\((x.toNat:Int)==95)=false:=by
 unfold nameC at h;have a':((x.toNat:Int)==95)=(x==95):=byte_eq (x:=x) 95 (by decide);rw[a']
 revert h
 cases letterC x<;>cases digitC x<;>cases(x==95)<;>simp
abbrev vTk(kind:Int)(u:Tx)(at' next:Int):Value:=.agg #[.int .i64 kind,.string (tx u),.int .i64 at',.int .i64 next]
section
variable {s:Tx} {i j:Nat} (hl:s.length<=262144) (hij:i<=j) (hj:j<=s.length) (hb: ∀k,i<=k->k<j-> ∃x,s[k]? =some x/\blankC x=true)
include hl hij hj hb
theorem r08Tok_end(he:j=s.length)(w:World):Calls Tryz.prog 119 #[.string (tx s),.int .i64 i] w (Ret w (vTk 0 ([]) s.length s.length)):=by
 obtain⟨n,hn⟩: ∃n,(tx s).size=n:=⟨_,rfl⟩;have HN:=hid (show n=s.length by rw[<-hn,tx_size]);have hnb:n<=262144:=by rw[HN.out];exact hl
 have hjn:j<=n:=by rw[HN.out];exact hj
 have HS:=hid hb;clear hb;have hjn2:j=n:=by rw[HN.out];exact he
 have HE:=hid he;clear he;go_enter Tryz.func119,Tryz.ntmps119;go_wp2_with fail
 go_loop [1] (fun x=> ∃k:Nat,i<=k/\k<=j/\x= .int .i64 k) (fun x=>j-(intOf x).toNat)
 case atStart=>exact⟨i,Nat.le_refl _,hij,rfl⟩
 case round=>
  obtain⟨k,hik,hkj,rfl⟩:=hrel
  by_cases hlt:k<j
  ·obtain⟨x,hx,hxb⟩:=HS.out k hik hlt
   have ix:=run_ix s k x hx;have zk:decide ((k:Int)<(n:Int))=true:=by simp;omega
   clear hx;rcases blank4 hxb with z1|⟨z1,z2⟩|⟨z1,z2,z3⟩|⟨z1,z2,z3,z4⟩
   all_goals clear hxb
   all_goals go_wp2_with fail
   all_goals go_round
   all_goals first|(case rel=>exact⟨k+1,by omega,by omega,by go_num⟩)|skip
   all_goals(case measure=>simp[intOf];omega)
  ·obtain rfl:k=j:=by omega
   have zk:decide ((k:Int)<(n:Int))=false:=by simp;omega
   go_wp2_with fail;exact bodyPost_ret (by first|(simp[results,Tryz.results119,go_sem];done)|(simp[results,Tryz.results119,go_sem];rfl)) rfl ⟨by rw[HN.out];rfl,(by repeat(first|with_reducible assumption|with_reducible exact Below.refl _ _|with_reducible refine Below.setCell ?_ (Nat.le_refl _) _|with_reducible refine Below.setCell ?_ (by simp) _|with_reducible refine Below.alloc ?_ (Nat.le_refl _) _|with_reducible refine Below.alloc ?_ (by simp) _|with_reducible refine Below.alloc ?_ (by simp<;>omega) _|with_reducible refine Below.drew ?_))⟩
theorem r08Tok_word{c:UInt8}(hc:s[j]? =some c)(hcb:blankC c=false)(hlc:letterC c=true){q:Nat}(hjq:j+1<=q)(hqn:q<=s.length)(hq: ∀k,j+1<=k->k<q-> ∃x,s[k]? =some x/\nameC x=true)(hqe: ∀x,s[q]? =some x->nameC x=false)(w:World):Calls Tryz.prog 119 #[.string (tx s),.int .i64 i] w (Ret w (vTk 1 ((s.take q).drop j) j q)):=by
 obtain⟨n,hn⟩: ∃n,(tx s).size=n:=⟨_,rfl⟩;have HN:=hid (show n=s.length by rw[<-hn,tx_size]);have hnb:n<=262144:=by rw[HN.out];exact hl
 have hjn:j<=n:=by rw[HN.out];exact hj
 have HS:=hid hb;clear hb;have hjlt:j<n:=by have:=(List.getElem?_eq_some_iff.1 hc).1;have:=HN.out;omega
 obtain⟨b1,b2,b3,b4⟩:=blank4n hcb;have ic:=run_ix s j c hc;clear hc hcb;have HQ:=hid hq;have HQN:=hid hqe;have hqn2:q<=n:=by rw[HN.out];exact hqn
 clear hq hqe;have HC:=hid hlc;clear hlc;go_enter Tryz.func119,Tryz.ntmps119;go_wp2_with fail
 go_loop [1] (fun x=> ∃k:Nat,i<=k/\k<=j/\x= .int .i64 k) (fun x=>j-(intOf x).toNat)
 case atStart=>exact⟨i,Nat.le_refl _,hij,rfl⟩
 case round=>
  obtain⟨k,hik,hkj,rfl⟩:=hrel
  by_cases hlt:k<j
  ·obtain⟨x,hx,hxb⟩:=HS.out k hik hlt
   have ix:=run_ix s k x hx;have zk:decide ((k:Int)<(n:Int))=true:=by simp;omega
   clear hx;rcases blank4 hxb with z1|⟨z1,z2⟩|⟨z1,z2,z3⟩|⟨z1,z2,z3,z4⟩
   all_goals clear hxb
   all_goals go_wp2_with fail
   all_goals go_round
   all_goals first|(case rel=>exact⟨k+1,by omega,by omega,by go_num⟩)|skip
   all_goals(case measure=>simp[intOf];omega)
  ·obtain rfl:k=j:=by omega
   have zk:decide ((k:Int)<(n:Int))=true:=by simp;omega
   have zg:decide ((n:Int)<=(k:Int))=false:=by simp;omega
   go_wp2_with (go_at_call 204;refine(r08Letter c _).mono ?_;rintro e w' ⟨rfl,rfl⟩;rw[HC.out])
   go_loop [5] (fun x=> ∃k2:Nat,k+1<=k2/\k2<=q/\x= .int .i64 k2) (fun x=>q-(intOf x).toNat)
   case atStart=>exact⟨k+1,Nat.le_refl _,hjq,by go_num⟩
   case round=>
    obtain⟨k2,hk1,hk2,rfl⟩:=hrel
    by_cases hlt2:k2<q
    ·obtain⟨x,hx,hxp⟩:=HQ.out k2 hk1 hlt2
     have ix:=run_ix s k2 x hx;have zk2:decide ((k2:Int)<(n:Int))=true:=by simp;omega
     clear hx;rcases name_or hxp with z1|⟨z1,z2⟩|⟨z1,z2,z3⟩
     ·have H1:=hid z1
      clear z1 hxp
      go_wp2_with (go_at_call 204;refine(r08Letter x _).mono ?_;rintro e w' ⟨rfl,rfl⟩;rw[H1.out])
      go_round
      case rel=>exact⟨k2+1,by omega,by omega,by go_num⟩
      case measure=>simp[intOf];omega
     ·have H1:=hid z1
      have H2:=hid z2;clear z1 z2 hxp
      go_wp2_with (first|(go_at_call 204;refine(r08Letter x _).mono ?_;rintro e w' ⟨rfl,rfl⟩;rw[H1.out])|(go_at_call 200;refine(r08Digit x _).mono ?_;rintro e w' ⟨rfl,rfl⟩;rw[H2.out]))
      go_round
      case rel=>exact⟨k2+1,by omega,by omega,by go_num⟩
      case measure=>simp[intOf];omega
     ·have H1:=hid z1
      have H2:=hid z2;clear z1 z2 hxp
      go_wp2_with (first|(go_at_call 204;refine(r08Letter x _).mono ?_;rintro e w' ⟨rfl,rfl⟩;rw[H1.out])|(go_at_call 200;refine(r08Digit x _).mono ?_;rintro e w' ⟨rfl,rfl⟩;rw[H2.out]))
      go_round
      case rel=>exact⟨k2+1,by omega,by omega,by go_num⟩
      case measure=>simp[intOf];omega
    ·obtain rfl:k2=q:=by omega
     have sl:=run_strsl s k k2 (by omega) (by have:=HN.out;omega)
     by_cases hq2:k2<n
     ·obtain⟨x,hx⟩: ∃x,s[k2]? =some x:=⟨_,List.getElem?_eq_getElem (by have:=HN.out;omega)⟩
      have hxp:=HQN.out x hx;have ix:=run_ix s k2 x hx;have zk2:decide ((k2:Int)<(n:Int))=true:=by simp;omega
      clear hx;obtain⟨z1,z2,z3⟩:=name_nor hxp;have H1:=hid z1;have H2:=hid z2;clear z1 z2 hxp
      go_wp2_with (first|(go_at_call 204;refine(r08Letter x _).mono ?_;rintro e w' ⟨rfl,rfl⟩;rw[H1.out])|(go_at_call 200;refine(r08Digit x _).mono ?_;rintro e w' ⟨rfl,rfl⟩;rw[H2.out]))
      exact bodyPost_ret (by first|(simp[results,Tryz.results119,go_sem];done)|(simp[results,Tryz.results119,go_sem];rfl)) rfl ⟨rfl,(by repeat(first|with_reducible assumption|with_reducible exact Below.refl _ _|with_reducible refine Below.setCell ?_ (Nat.le_refl _) _|with_reducible refine Below.setCell ?_ (by simp) _|with_reducible refine Below.alloc ?_ (Nat.le_refl _) _|with_reducible refine Below.alloc ?_ (by simp) _|with_reducible refine Below.alloc ?_ (by simp<;>omega) _|with_reducible refine Below.drew ?_))⟩
     ·have zk2:decide ((k2:Int)<(n:Int))=false:=by simp;omega
      go_wp2_with fail;exact bodyPost_ret (by first|(simp[results,Tryz.results119,go_sem];done)|(simp[results,Tryz.results119,go_sem];rfl)) rfl ⟨rfl,(by repeat(first|with_reducible assumption|with_reducible exact Below.refl _ _|with_reducible refine Below.setCell ?_ (Nat.le_refl _) _|with_reducible refine Below.setCell ?_ (by simp) _|with_reducible refine Below.alloc ?_ (Nat.le_refl _) _|with_reducible refine Below.alloc ?_ (by simp) _|with_reducible refine Below.alloc ?_ (by simp<;>omega) _|with_reducible refine Below.drew ?_))⟩
theorem r08Tok_num{c:UInt8}(hc:s[j]? =some c)(hcb:blankC c=false)(hlc:letterC c=false)(hdc:digitC c=true){q:Nat}(hjq:j+1<=q)(hqn:q<=s.length)(hq: ∀k,j+1<=k->k<q-> ∃x,s[k]? =some x/\digitC x=true)(hqe: ∀x,s[q]? =some x->digitC x=false)(w:World):Calls Tryz.prog 119 #[.string (tx s),.int .i64 i] w (Ret w (vTk 2 ((s.take q).drop j) j q)):=by
 obtain⟨n,hn⟩: ∃n,(tx s).size=n:=⟨_,rfl⟩;have HN:=hid (show n=s.length by rw[<-hn,tx_size]);have hnb:n<=262144:=by rw[HN.out];exact hl
 have hjn:j<=n:=by rw[HN.out];exact hj
 have HS:=hid hb;clear hb;have hjlt:j<n:=by have:=(List.getElem?_eq_some_iff.1 hc).1;have:=HN.out;omega
 obtain⟨b1,b2,b3,b4⟩:=blank4n hcb;have ic:=run_ix s j c hc;clear hc hcb;have HQ:=hid hq;have HQN:=hid hqe;have hqn2:q<=n:=by rw[HN.out];exact hqn
 clear hq hqe;have HC:=hid hlc;have HD:=hid hdc;clear hlc hdc;go_enter Tryz.func119,Tryz.ntmps119;go_wp2_with fail
 go_loop [1] (fun x=> ∃k:Nat,i<=k/\k<=j/\x= .int .i64 k) (fun x=>j-(intOf x).toNat)
 case atStart=>exact⟨i,Nat.le_refl _,hij,rfl⟩
 case round=>
  obtain⟨k,hik,hkj,rfl⟩:=hrel
  by_cases hlt:k<j
  ·obtain⟨x,hx,hxb⟩:=HS.out k hik hlt
   have ix:=run_ix s k x hx;have zk:decide ((k:Int)<(n:Int))=true:=by simp;omega
   clear hx;rcases blank4 hxb with z1|⟨z1,z2⟩|⟨z1,z2,z3⟩|⟨z1,z2,z3,z4⟩
   all_goals clear hxb
   all_goals go_wp2_with fail
   all_goals go_round
   all_goals first|(case rel=>exact⟨k+1,by omega,by omega,by go_num⟩)|skip
   all_goals(case measure=>simp[intOf];omega)
  ·obtain rfl:k=j:=by omega
   have zk:decide ((k:Int)<(n:Int))=true:=by simp;omega
   have zg:decide ((n:Int)<=(k:Int))=false:=by simp;omega
   go_wp2_with (first|(go_at_call 204;refine(r08Letter c _).mono ?_;rintro e w' ⟨rfl,rfl⟩;rw[HC.out])|(go_at_call 200;refine(r08Digit c _).mono ?_;rintro e w' ⟨rfl,rfl⟩;rw[HD.out]))
   go_loop [5] (fun x=> ∃k2:Nat,k+1<=k2/\k2<=q/\x= .int .i64 k2) (fun x=>q-(intOf x).toNat)
   case atStart=>exact⟨k+1,Nat.le_refl _,hjq,by go_num⟩
   case round=>
    obtain⟨k2,hk1,hk2,rfl⟩:=hrel
    by_cases hlt2:k2<q
    ·obtain⟨x,hx,hxp⟩:=HQ.out k2 hk1 hlt2
     have ix:=run_ix s k2 x hx;have zk2:decide ((k2:Int)<(n:Int))=true:=by simp;omega
     clear hx;have H1:=hid hxp;clear hxp
     go_wp2_with (go_at_call 200;refine(r08Digit x _).mono ?_;rintro e w' ⟨rfl,rfl⟩;rw[H1.out])
     go_round
     case rel=>exact⟨k2+1,by omega,by omega,by go_num⟩
     case measure=>simp[intOf];omega
    ·obtain rfl:k2=q:=by omega
     have sl:=run_strsl s k k2 (by omega) (by have:=HN.out;omega)
     by_cases hq2:k2<n
     ·obtain⟨x,hx⟩: ∃x,s[k2]? =some x:=⟨_,List.getElem?_eq_getElem (by have:=HN.out;omega)⟩
      have hxp:=HQN.out x hx;have ix:=run_ix s k2 x hx;have zk2:decide ((k2:Int)<(n:Int))=true:=by simp;omega
      clear hx;have H1:=hid hxp;clear hxp
      go_wp2_with (go_at_call 200;refine(r08Digit x _).mono ?_;rintro e w' ⟨rfl,rfl⟩;rw[H1.out])
      exact bodyPost_ret (by first|(simp[results,Tryz.results119,go_sem];done)|(simp[results,Tryz.results119,go_sem];rfl)) rfl ⟨rfl,(by repeat(first|with_reducible assumption|with_reducible exact Below.refl _ _|with_reducible refine Below.setCell ?_ (Nat.le_refl _) _|with_reducible refine Below.setCell ?_ (by simp) _|with_reducible refine Below.alloc ?_ (Nat.le_refl _) _|with_reducible refine Below.alloc ?_ (by simp) _|with_reducible refine Below.alloc ?_ (by simp<;>omega) _|with_reducible refine Below.drew ?_))⟩
     ·have zk2:decide ((k2:Int)<(n:Int))=false:=by simp;omega
      go_wp2_with fail;exact bodyPost_ret (by first|(simp[results,Tryz.results119,go_sem];done)|(simp[results,Tryz.results119,go_sem];rfl)) rfl ⟨rfl,(by repeat(first|with_reducible assumption|with_reducible exact Below.refl _ _|with_reducible refine Below.setCell ?_ (Nat.le_refl _) _|with_reducible refine Below.setCell ?_ (by simp) _|with_reducible refine Below.alloc ?_ (Nat.le_refl _) _|with_reducible refine Below.alloc ?_ (by simp) _|with_reducible refine Below.alloc ?_ (by simp<;>omega) _|with_reducible refine Below.drew ?_))⟩
theorem r08Tok_neg{c:UInt8}(hc:s[j]? =some c)(hcb:blankC c=false)(hlc:letterC c=false)(hdc:digitC c=false)(h45:((c.toNat:Int)==45)=true){q:Nat}(hjq:j+1<=q)(hqn:q<=s.length)(hq: ∀k,j+1<=k->k<q-> ∃x,s[k]? =some x/\digitC x=true)(hqe: ∀x,s[q]? =some x->digitC x=false)(hj1:j+1<q)(w:World):Calls Tryz.prog 119 #[.string (tx s),.int .i64 i] w (Ret w (vTk 2 ((s.take q).drop j) j q)):=by
 obtain⟨n,hn⟩: ∃n,(tx s).size=n:=⟨_,rfl⟩;have HN:=hid (show n=s.length by rw[<-hn,tx_size]);have hnb:n<=262144:=by rw[HN.out];exact hl
 have hjn:j<=n:=by rw[HN.out];exact hj
 have HS:=hid hb;clear hb;have hjlt:j<n:=by have:=(List.getElem?_eq_some_iff.1 hc).1;have:=HN.out;omega
 obtain⟨b1,b2,b3,b4⟩:=blank4n hcb;have ic:=run_ix s j c hc;clear hc hcb;have HQ:=hid hq;have HQN:=hid hqe;have hqn2:q<=n:=by rw[HN.out];exact hqn
 clear hq hqe;have HC:=hid hlc;have HD:=hid hdc;have hj2:j+1<n:=by have:=HN.out;omega
 obtain⟨d,hd,hdd⟩:=HQ.out (j+1) (Nat.le_refl _) hj1;have id:=run_ix s (j+1) d hd;rw[show((j+1:Nat):Int)=(j:Int)+1 by omega]at id;have HE:=hid hdd;clear hlc hdc hd hdd;go_enter Tryz.func119,Tryz.ntmps119;go_wp2_with fail
 go_loop [1] (fun x=> ∃k:Nat,i<=k/\k<=j/\x= .int .i64 k) (fun x=>j-(intOf x).toNat)
 case atStart=>exact⟨i,Nat.le_refl _,hij,rfl⟩
 case round=>
  obtain⟨k,hik,hkj,rfl⟩:=hrel
  by_cases hlt:k<j
  ·obtain⟨x,hx,hxb⟩:=HS.out k hik hlt
   have ix:=run_ix s k x hx;have zk:decide ((k:Int)<(n:Int))=true:=by simp;omega
   clear hx;rcases blank4 hxb with z1|⟨z1,z2⟩|⟨z1,z2,z3⟩|⟨z1,z2,z3,z4⟩
   all_goals clear hxb
   all_goals go_wp2_with fail
   all_goals go_round
   all_goals first|(case rel=>exact⟨k+1,by omega,by omega,by go_num⟩)|skip
   all_goals(case measure=>simp[intOf];omega)
  ·obtain rfl:k=j:=by omega
   have zk:decide ((k:Int)<(n:Int))=true:=by simp;omega
   have zg:decide ((n:Int)<=(k:Int))=false:=by simp;omega
   have zk1:decide ((k:Int)+1<(n:Int))=true:=by simp;omega
   go_wp2_with (first|(go_at_call 204;refine(r08Letter c _).mono ?_;rintro e w' ⟨rfl,rfl⟩;rw[HC.out])|(go_at_call 200;refine(r08Digit c _).mono ?_;rintro e w' ⟨rfl,rfl⟩;rw[HD.out])|(go_at_call 200;refine(r08Digit d _).mono ?_;rintro e w' ⟨rfl,rfl⟩;rw[HE.out]))
   go_loop [5] (fun x=> ∃k2:Nat,k+1<=k2/\k2<=q/\x= .int .i64 k2) (fun x=>q-(intOf x).toNat)
   case atStart=>exact⟨k+1,Nat.le_refl _,hjq,by go_num⟩
   case round=>
    obtain⟨k2,hk1,hk2,rfl⟩:=hrel
    by_cases hlt2:k2<q
    ·obtain⟨x,hx,hxp⟩:=HQ.out k2 hk1 hlt2
     have ix:=run_ix s k2 x hx;have zk2:decide ((k2:Int)<(n:Int))=true:=by simp;omega
     clear hx;have H1:=hid hxp;clear hxp
     go_wp2_with (go_at_call 200;refine(r08Digit x _).mono ?_;rintro e w' ⟨rfl,rfl⟩;rw[H1.out])
     go_round
     case rel=>exact⟨k2+1,by omega,by omega,by go_num⟩
     case measure=>simp[intOf];omega
    ·obtain rfl:k2=q:=by omega
     have sl:=run_strsl s k k2 (by omega) (by have:=HN.out;omega)
     by_cases hq2:k2<n
     ·obtain⟨x,hx⟩: ∃x,s[k2]? =some x:=⟨_,List.getElem?_eq_getElem (by have:=HN.out;omega)⟩
      have hxp:=HQN.out x hx;have ix:=run_ix s k2 x hx;have zk2:decide ((k2:Int)<(n:Int))=true:=by simp;omega
      clear hx;have H1:=hid hxp;clear hxp
      go_wp2_with (go_at_call 200;refine(r08Digit x _).mono ?_;rintro e w' ⟨rfl,rfl⟩;rw[H1.out])
      exact bodyPost_ret (by first|(simp[results,Tryz.results119,go_sem];done)|(simp[results,Tryz.results119,go_sem];rfl)) rfl ⟨rfl,(by repeat(first|with_reducible assumption|with_reducible exact Below.refl _ _|with_reducible refine Below.setCell ?_ (Nat.le_refl _) _|with_reducible refine Below.setCell ?_ (by simp) _|with_reducible refine Below.alloc ?_ (Nat.le_refl _) _|with_reducible refine Below.alloc ?_ (by simp) _|with_reducible refine Below.alloc ?_ (by simp<;>omega) _|with_reducible refine Below.drew ?_))⟩
     ·have zk2:decide ((k2:Int)<(n:Int))=false:=by simp;omega
      go_wp2_with fail;exact bodyPost_ret (by first|(simp[results,Tryz.results119,go_sem];done)|(simp[results,Tryz.results119,go_sem];rfl)) rfl ⟨rfl,(by repeat(first|with_reducible assumption|with_reducible exact Below.refl _ _|with_reducible refine Below.setCell ?_ (Nat.le_refl _) _|with_reducible refine Below.setCell ?_ (by simp) _|with_reducible refine Below.alloc ?_ (Nat.le_refl _) _|with_reducible refine Below.alloc ?_ (by simp) _|with_reducible refine Below.alloc ?_ (by simp<;>omega) _|with_reducible refine Below.drew ?_))⟩
theorem r08Tok_s0{c:UInt8}(hc:s[j]? =some c)(hcb:blankC c=false)(hlc:letterC c=false)(hdc:digitC c=false)(hend:j+1=s.length)(w:World):Calls Tryz.prog 119 #[.string (tx s),.int .i64 i] w (Ret w (vTk 3 ((s.take (j+1)).drop j) j (j+1))):=by
 obtain⟨n,hn⟩: ∃n,(tx s).size=n:=⟨_,rfl⟩;have HN:=hid (show n=s.length by rw[<-hn,tx_size]);have hnb:n<=262144:=by rw[HN.out];exact hl
 have hjn:j<=n:=by rw[HN.out];exact hj
 have HS:=hid hb;clear hb;have hjlt:j<n:=by have:=(List.getElem?_eq_some_iff.1 hc).1;have:=HN.out;omega
 obtain⟨b1,b2,b3,b4⟩:=blank4n hcb;have ic:=run_ix s j c hc;clear hc hcb;have HC:=hid hlc;have HD:=hid hdc;clear hlc hdc;have hj2:j+1=n:=by rw[HN.out];exact hend
 go_enter Tryz.func119,Tryz.ntmps119;go_wp2_with fail
 go_loop [1] (fun x=> ∃k:Nat,i<=k/\k<=j/\x= .int .i64 k) (fun x=>j-(intOf x).toNat)
 case atStart=>exact⟨i,Nat.le_refl _,hij,rfl⟩
 case round=>
  obtain⟨k,hik,hkj,rfl⟩:=hrel
  by_cases hlt:k<j
  ·obtain⟨x,hx,hxb⟩:=HS.out k hik hlt
   have ix:=run_ix s k x hx;have zk:decide ((k:Int)<(n:Int))=true:=by simp;omega
   clear hx;rcases blank4 hxb with z1|⟨z1,z2⟩|⟨z1,z2,z3⟩|⟨z1,z2,z3,z4⟩
   all_goals clear hxb
   all_goals go_wp2_with fail
   all_goals go_round
   all_goals first|(case rel=>exact⟨k+1,by omega,by omega,by go_num⟩)|skip
   all_goals(case measure=>simp[intOf];omega)
  ·obtain rfl:k=j:=by omega
   have zk:decide ((k:Int)<(n:Int))=true:=by simp;omega
   have zg:decide ((n:Int)<=(k:Int))=false:=by simp;omega
   have zk1:decide ((k:Int)+1<(n:Int))=false:=by simp;omega
   have sl:=run_strsl s k (k+1) (by omega) (by have:=HN.out;omega);rw[show((k+1:Nat):Int)=(k:Int)+1 by omega]at sl
   go_wp2_with (first|(go_at_call 204;refine(r08Letter c _).mono ?_;rintro e w' ⟨rfl,rfl⟩;rw[HC.out])|(go_at_call 200;refine(r08Digit c _).mono ?_;rintro e w' ⟨rfl,rfl⟩;rw[HD.out]))
   all_goals rw[show(s.take (k+1)).drop k=s.drop k by rw[List.take_of_length_le (by have:=HN.out;omega)]]
   all_goals exact bodyPost_ret (by first|(simp[results,Tryz.results119,go_sem];done)|(simp[results,Tryz.results119,go_sem];rfl)) rfl ⟨rfl,(by repeat(first|with_reducible assumption|with_reducible exact Below.refl _ _|with_reducible refine Below.setCell ?_ (Nat.le_refl _) _|with_reducible refine Below.setCell ?_ (by simp) _|with_reducible refine Below.alloc ?_ (Nat.le_refl _) _|with_reducible refine Below.alloc ?_ (by simp) _|with_reducible refine Below.alloc ?_ (by simp<;>omega) _|with_reducible refine Below.drew ?_))⟩
theorem r08Tok_s1{c:UInt8}(hc:s[j]? =some c)(hcb:blankC c=false)(hlc:letterC c=false)(hdc:digitC c=false)(h45:((c.toNat:Int)==45)=true){d:UInt8}(hd:s[j+1]? =some d)(hdd:digitC d=false)(h47:((c.toNat:Int)==47)=false)(h92:((c.toNat:Int)==92)=false)(w:World):Calls Tryz.prog 119 #[.string (tx s),.int .i64 i] w (Ret w (vTk 3 ((s.take (j+1)).drop j) j (j+1))):=by
 obtain⟨n,hn⟩: ∃n,(tx s).size=n:=⟨_,rfl⟩;have HN:=hid (show n=s.length by rw[<-hn,tx_size]);have hnb:n<=262144:=by rw[HN.out];exact hl
 have hjn:j<=n:=by rw[HN.out];exact hj
 have HS:=hid hb;clear hb;have hjlt:j<n:=by have:=(List.getElem?_eq_some_iff.1 hc).1;have:=HN.out;omega
 obtain⟨b1,b2,b3,b4⟩:=blank4n hcb;have ic:=run_ix s j c hc;clear hc hcb;have HC:=hid hlc;have HD:=hid hdc;clear hlc hdc;have HE:=hid hdd;clear hdd;have hj2:j+1<n:=by have:=(List.getElem?_eq_some_iff.1 hd).1;have:=HN.out;omega
 have id:=run_ix s (j+1) d hd;rw[show((j+1:Nat):Int)=(j:Int)+1 by omega]at id;clear hd;go_enter Tryz.func119,Tryz.ntmps119;go_wp2_with fail
 go_loop [1] (fun x=> ∃k:Nat,i<=k/\k<=j/\x= .int .i64 k) (fun x=>j-(intOf x).toNat)
 case atStart=>exact⟨i,Nat.le_refl _,hij,rfl⟩
 case round=>
  obtain⟨k,hik,hkj,rfl⟩:=hrel
  by_cases hlt:k<j
  ·obtain⟨x,hx,hxb⟩:=HS.out k hik hlt
   have ix:=run_ix s k x hx;have zk:decide ((k:Int)<(n:Int))=true:=by simp;omega
   clear hx;rcases blank4 hxb with z1|⟨z1,z2⟩|⟨z1,z2,z3⟩|⟨z1,z2,z3,z4⟩
   all_goals clear hxb
   all_goals go_wp2_with fail
   all_goals go_round
   all_goals first|(case rel=>exact⟨k+1,by omega,by omega,by go_num⟩)|skip
   all_goals(case measure=>simp[intOf];omega)
  ·obtain rfl:k=j:=by omega
   have zk:decide ((k:Int)<(n:Int))=true:=by simp;omega
   have zg:decide ((n:Int)<=(k:Int))=false:=by simp;omega
   have zk1:decide ((k:Int)+1<(n:Int))=true:=by simp;omega
   have sl:=run_strsl s k (k+1) (by omega) (by have:=HN.out;omega);rw[show((k+1:Nat):Int)=(k:Int)+1 by omega]at sl
   go_wp2_with (first|(go_at_call 204;refine(r08Letter c _).mono ?_;rintro e w' ⟨rfl,rfl⟩;rw[HC.out])|(go_at_call 200;refine(r08Digit c _).mono ?_;rintro e w' ⟨rfl,rfl⟩;rw[HD.out])|(go_at_call 200;refine(r08Digit d _).mono ?_;rintro e w' ⟨rfl,rfl⟩;rw[HE.out]))
   exact bodyPost_ret (by first|(simp[results,Tryz.results119,go_sem];done)|(simp[results,Tryz.results119,go_sem];rfl)) rfl ⟨rfl,(by repeat(first|with_reducible assumption|with_reducible exact Below.refl _ _|with_reducible refine Below.setCell ?_ (Nat.le_refl _) _|with_reducible refine Below.setCell ?_ (by simp) _|with_reducible refine Below.alloc ?_ (Nat.le_refl _) _|with_reducible refine Below.alloc ?_ (by simp) _|with_reducible refine Below.alloc ?_ (by simp<;>omega) _|with_reducible refine Below.drew ?_))⟩
theorem r08Tok_s2{c:UInt8}(hc:s[j]? =some c)(hcb:blankC c=false)(hlc:letterC c=false)(hdc:digitC c=false)(h45:((c.toNat:Int)==45)=false){d:UInt8}(hd:s[j+1]? =some d)(h47:((c.toNat:Int)==47)=false)(h92:((c.toNat:Int)==92)=false)(w:World):Calls Tryz.prog 119 #[.string (tx s),.int .i64 i] w (Ret w (vTk 3 ((s.take (j+1)).drop j) j (j+1))):=by
 obtain⟨n,hn⟩: ∃n,(tx s).size=n:=⟨_,rfl⟩;have HN:=hid (show n=s.length by rw[<-hn,tx_size]);have hnb:n<=262144:=by rw[HN.out];exact hl
 have hjn:j<=n:=by rw[HN.out];exact hj
 have HS:=hid hb;clear hb;have hjlt:j<n:=by have:=(List.getElem?_eq_some_iff.1 hc).1;have:=HN.out;omega
 obtain⟨b1,b2,b3,b4⟩:=blank4n hcb;have ic:=run_ix s j c hc;clear hc hcb;have HC:=hid hlc;have HD:=hid hdc;clear hlc hdc;have hj2:j+1<n:=by have:=(List.getElem?_eq_some_iff.1 hd).1;have:=HN.out;omega
 have id:=run_ix s (j+1) d hd;rw[show((j+1:Nat):Int)=(j:Int)+1 by omega]at id;clear hd;go_enter Tryz.func119,Tryz.ntmps119;go_wp2_with fail
 go_loop [1] (fun x=> ∃k:Nat,i<=k/\k<=j/\x= .int .i64 k) (fun x=>j-(intOf x).toNat)
 case atStart=>exact⟨i,Nat.le_refl _,hij,rfl⟩
 case round=>
  obtain⟨k,hik,hkj,rfl⟩:=hrel
  by_cases hlt:k<j
  ·obtain⟨x,hx,hxb⟩:=HS.out k hik hlt
   have ix:=run_ix s k x hx;have zk:decide ((k:Int)<(n:Int))=true:=by simp;omega
   clear hx;rcases blank4 hxb with z1|⟨z1,z2⟩|⟨z1,z2,z3⟩|⟨z1,z2,z3,z4⟩
   all_goals clear hxb
   all_goals go_wp2_with fail
   all_goals go_round
   all_goals first|(case rel=>exact⟨k+1,by omega,by omega,by go_num⟩)|skip
   all_goals(case measure=>simp[intOf];omega)
  ·obtain rfl:k=j:=by omega
   have zk:decide ((k:Int)<(n:Int))=true:=by simp;omega
   have zg:decide ((n:Int)<=(k:Int))=false:=by simp;omega
   have zk1:decide ((k:Int)+1<(n:Int))=true:=by simp;omega
   have sl:=run_strsl s k (k+1) (by omega) (by have:=HN.out;omega);rw[show((k+1:Nat):Int)=(k:Int)+1 by omega]at sl
   go_wp2_with (first|(go_at_call 204;refine(r08Letter c _).mono ?_;rintro e w' ⟨rfl,rfl⟩;rw[HC.out])|(go_at_call 200;refine(r08Digit c _).mono ?_;rintro e w' ⟨rfl,rfl⟩;rw[HD.out]))
   exact bodyPost_ret (by first|(simp[results,Tryz.results119,go_sem];done)|(simp[results,Tryz.results119,go_sem];rfl)) rfl ⟨rfl,(by repeat(first|with_reducible assumption|with_reducible exact Below.refl _ _|with_reducible refine Below.setCell ?_ (Nat.le_refl _) _|with_reducible refine Below.setCell ?_ (by simp) _|with_reducible refine Below.alloc ?_ (Nat.le_refl _) _|with_reducible refine Below.alloc ?_ (by simp) _|with_reducible refine Below.alloc ?_ (by simp<;>omega) _|with_reducible refine Below.drew ?_))⟩
theorem r08Tok_s3{c:UInt8}(hc:s[j]? =some c)(hcb:blankC c=false)(hlc:letterC c=false)(hdc:digitC c=false)(h45:((c.toNat:Int)==45)=false){d:UInt8}(hd:s[j+1]? =some d)(h47:((c.toNat:Int)==47)=true)(h92:((d.toNat:Int)==92)=true)(w:World):Calls Tryz.prog 119 #[.string (tx s),.int .i64 i] w (Ret w (vTk 3 ((s.take (j+2)).drop j) j (j+2))):=by
 obtain⟨n,hn⟩: ∃n,(tx s).size=n:=⟨_,rfl⟩;have HN:=hid (show n=s.length by rw[<-hn,tx_size]);have hnb:n<=262144:=by rw[HN.out];exact hl
 have hjn:j<=n:=by rw[HN.out];exact hj
 have HS:=hid hb;clear hb;have hjlt:j<n:=by have:=(List.getElem?_eq_some_iff.1 hc).1;have:=HN.out;omega
 obtain⟨b1,b2,b3,b4⟩:=blank4n hcb;have ic:=run_ix s j c hc;clear hc hcb;have HC:=hid hlc;have HD:=hid hdc;clear hlc hdc;have hj2:j+1<n:=by have:=(List.getElem?_eq_some_iff.1 hd).1;have:=HN.out;omega
 have id:=run_ix s (j+1) d hd;rw[show((j+1:Nat):Int)=(j:Int)+1 by omega]at id;clear hd;go_enter Tryz.func119,Tryz.ntmps119;go_wp2_with fail
 go_loop [1] (fun x=> ∃k:Nat,i<=k/\k<=j/\x= .int .i64 k) (fun x=>j-(intOf x).toNat)
 case atStart=>exact⟨i,Nat.le_refl _,hij,rfl⟩
 case round=>
  obtain⟨k,hik,hkj,rfl⟩:=hrel
  by_cases hlt:k<j
  ·obtain⟨x,hx,hxb⟩:=HS.out k hik hlt
   have ix:=run_ix s k x hx;have zk:decide ((k:Int)<(n:Int))=true:=by simp;omega
   clear hx;rcases blank4 hxb with z1|⟨z1,z2⟩|⟨z1,z2,z3⟩|⟨z1,z2,z3,z4⟩
   all_goals clear hxb
   all_goals go_wp2_with fail
   all_goals go_round
   all_goals first|(case rel=>exact⟨k+1,by omega,by omega,by go_num⟩)|skip
   all_goals(case measure=>simp[intOf];omega)
  ·obtain rfl:k=j:=by omega
   have zk:decide ((k:Int)<(n:Int))=true:=by simp;omega
   have zg:decide ((n:Int)<=(k:Int))=false:=by simp;omega
   have zk1:decide ((k:Int)+1<(n:Int))=true:=by simp;omega
   have sl:=run_strsl s k (k+2) (by omega) (by have:=HN.out;omega);rw[show((k+2:Nat):Int)=(k:Int)+2 by omega]at sl;rw[show(k:Int)+2=(k:Int)+1+1 by omega]at sl
   go_wp2_with (first|(go_at_call 204;refine(r08Letter c _).mono ?_;rintro e w' ⟨rfl,rfl⟩;rw[HC.out])|(go_at_call 200;refine(r08Digit c _).mono ?_;rintro e w' ⟨rfl,rfl⟩;rw[HD.out]))
   exact bodyPost_ret (by first|(simp[results,Tryz.results119,go_sem];done)|(simp[results,Tryz.results119,go_sem];rfl)) rfl ⟨rfl,(by repeat(first|with_reducible assumption|with_reducible exact Below.refl _ _|with_reducible refine Below.setCell ?_ (Nat.le_refl _) _|with_reducible refine Below.setCell ?_ (by simp) _|with_reducible refine Below.alloc ?_ (Nat.le_refl _) _|with_reducible refine Below.alloc ?_ (by simp) _|with_reducible refine Below.alloc ?_ (by simp<;>omega) _|with_reducible refine Below.drew ?_))⟩
theorem r08Tok_s4{c:UInt8}(hc:s[j]? =some c)(hcb:blankC c=false)(hlc:letterC c=false)(hdc:digitC c=false)(h45:((c.toNat:Int)==45)=false){d:UInt8}(hd:s[j+1]? =some d)(h47:((c.toNat:Int)==47)=true)(h92:((d.toNat:Int)==92)=false)(h9:((c.toNat:Int)==92)=false)(w:World):Calls Tryz.prog 119 #[.string (tx s),.int .i64 i] w (Ret w (vTk 3 ((s.take (j+1)).drop j) j (j+1))):=by
 obtain⟨n,hn⟩: ∃n,(tx s).size=n:=⟨_,rfl⟩;have HN:=hid (show n=s.length by rw[<-hn,tx_size]);have hnb:n<=262144:=by rw[HN.out];exact hl
 have hjn:j<=n:=by rw[HN.out];exact hj
 have HS:=hid hb;clear hb;have hjlt:j<n:=by have:=(List.getElem?_eq_some_iff.1 hc).1;have:=HN.out;omega
 obtain⟨b1,b2,b3,b4⟩:=blank4n hcb;have ic:=run_ix s j c hc;clear hc hcb;have HC:=hid hlc;have HD:=hid hdc;clear hlc hdc;have hj2:j+1<n:=by have:=(List.getElem?_eq_some_iff.1 hd).1;have:=HN.out;omega
 have id:=run_ix s (j+1) d hd;rw[show((j+1:Nat):Int)=(j:Int)+1 by omega]at id;clear hd;go_enter Tryz.func119,Tryz.ntmps119;go_wp2_with fail
 go_loop [1] (fun x=> ∃k:Nat,i<=k/\k<=j/\x= .int .i64 k) (fun x=>j-(intOf x).toNat)
 case atStart=>exact⟨i,Nat.le_refl _,hij,rfl⟩
 case round=>
  obtain⟨k,hik,hkj,rfl⟩:=hrel
  by_cases hlt:k<j
  ·obtain⟨x,hx,hxb⟩:=HS.out k hik hlt
   have ix:=run_ix s k x hx;have zk:decide ((k:Int)<(n:Int))=true:=by simp;omega
   clear hx;rcases blank4 hxb with z1|⟨z1,z2⟩|⟨z1,z2,z3⟩|⟨z1,z2,z3,z4⟩
   all_goals clear hxb
   all_goals go_wp2_with fail
   all_goals go_round
   all_goals first|(case rel=>exact⟨k+1,by omega,by omega,by go_num⟩)|skip
   all_goals(case measure=>simp[intOf];omega)
  ·obtain rfl:k=j:=by omega
   have zk:decide ((k:Int)<(n:Int))=true:=by simp;omega
   have zg:decide ((n:Int)<=(k:Int))=false:=by simp;omega
   have zk1:decide ((k:Int)+1<(n:Int))=true:=by simp;omega
   have sl:=run_strsl s k (k+1) (by omega) (by have:=HN.out;omega);rw[show((k+1:Nat):Int)=(k:Int)+1 by omega]at sl
   go_wp2_with (first|(go_at_call 204;refine(r08Letter c _).mono ?_;rintro e w' ⟨rfl,rfl⟩;rw[HC.out])|(go_at_call 200;refine(r08Digit c _).mono ?_;rintro e w' ⟨rfl,rfl⟩;rw[HD.out]))
   exact bodyPost_ret (by first|(simp[results,Tryz.results119,go_sem];done)|(simp[results,Tryz.results119,go_sem];rfl)) rfl ⟨rfl,(by repeat(first|with_reducible assumption|with_reducible exact Below.refl _ _|with_reducible refine Below.setCell ?_ (Nat.le_refl _) _|with_reducible refine Below.setCell ?_ (by simp) _|with_reducible refine Below.alloc ?_ (Nat.le_refl _) _|with_reducible refine Below.alloc ?_ (by simp) _|with_reducible refine Below.alloc ?_ (by simp<;>omega) _|with_reducible refine Below.drew ?_))⟩
theorem r08Tok_s5{c:UInt8}(hc:s[j]? =some c)(hcb:blankC c=false)(hlc:letterC c=false)(hdc:digitC c=false)(h45:((c.toNat:Int)==45)=false){d:UInt8}(hd:s[j+1]? =some d)(h47:((c.toNat:Int)==47)=false)(h92:((c.toNat:Int)==92)=true)(h9:((d.toNat:Int)==47)=true)(w:World):Calls Tryz.prog 119 #[.string (tx s),.int .i64 i] w (Ret w (vTk 3 ((s.take (j+2)).drop j) j (j+2))):=by
 obtain⟨n,hn⟩: ∃n,(tx s).size=n:=⟨_,rfl⟩;have HN:=hid (show n=s.length by rw[<-hn,tx_size]);have hnb:n<=262144:=by rw[HN.out];exact hl
 have hjn:j<=n:=by rw[HN.out];exact hj
 have HS:=hid hb;clear hb;have hjlt:j<n:=by have:=(List.getElem?_eq_some_iff.1 hc).1;have:=HN.out;omega
 obtain⟨b1,b2,b3,b4⟩:=blank4n hcb;have ic:=run_ix s j c hc;clear hc hcb;have HC:=hid hlc;have HD:=hid hdc;clear hlc hdc;have hj2:j+1<n:=by have:=(List.getElem?_eq_some_iff.1 hd).1;have:=HN.out;omega
 have id:=run_ix s (j+1) d hd;rw[show((j+1:Nat):Int)=(j:Int)+1 by omega]at id;clear hd;go_enter Tryz.func119,Tryz.ntmps119;go_wp2_with fail
 go_loop [1] (fun x=> ∃k:Nat,i<=k/\k<=j/\x= .int .i64 k) (fun x=>j-(intOf x).toNat)
 case atStart=>exact⟨i,Nat.le_refl _,hij,rfl⟩
 case round=>
  obtain⟨k,hik,hkj,rfl⟩:=hrel
  by_cases hlt:k<j
  ·obtain⟨x,hx,hxb⟩:=HS.out k hik hlt
   have ix:=run_ix s k x hx;have zk:decide ((k:Int)<(n:Int))=true:=by simp;omega
   clear hx;rcases blank4 hxb with z1|⟨z1,z2⟩|⟨z1,z2,z3⟩|⟨z1,z2,z3,z4⟩
   all_goals clear hxb
   all_goals go_wp2_with fail
   all_goals go_round
   all_goals first|(case rel=>exact⟨k+1,by omega,by omega,by go_num⟩)|skip
   all_goals(case measure=>simp[intOf];omega)
  ·obtain rfl:k=j:=by omega
   have zk:decide ((k:Int)<(n:Int))=true:=by simp;omega
   have zg:decide ((n:Int)<=(k:Int))=false:=by simp;omega
   have zk1:decide ((k:Int)+1<(n:Int))=true:=by simp;omega
   have sl:=run_strsl s k (k+2) (by omega) (by have:=HN.out;omega);rw[show((k+2:Nat):Int)=(k:Int)+2 by omega]at sl;rw[show(k:Int)+2=(k:Int)+1+1 by omega]at sl
   go_wp2_with (first|(go_at_call 204;refine(r08Letter c _).mono ?_;rintro e w' ⟨rfl,rfl⟩;rw[HC.out])|(go_at_call 200;refine(r08Digit c _).mono ?_;rintro e w' ⟨rfl,rfl⟩;rw[HD.out]))
   exact bodyPost_ret (by first|(simp[results,Tryz.results119,go_sem];done)|(simp[results,Tryz.results119,go_sem];rfl)) rfl ⟨rfl,(by repeat(first|with_reducible assumption|with_reducible exact Below.refl _ _|with_reducible refine Below.setCell ?_ (Nat.le_refl _) _|with_reducible refine Below.setCell ?_ (by simp) _|with_reducible refine Below.alloc ?_ (Nat.le_refl _) _|with_reducible refine Below.alloc ?_ (by simp) _|with_reducible refine Below.alloc ?_ (by simp<;>omega) _|with_reducible refine Below.drew ?_))⟩
theorem r08Tok_s6{c:UInt8}(hc:s[j]? =some c)(hcb:blankC c=false)(hlc:letterC c=false)(hdc:digitC c=false)(h45:((c.toNat:Int)==45)=false){d:UInt8}(hd:s[j+1]? =some d)(h47:((c.toNat:Int)==47)=false)(h92:((c.toNat:Int)==92)=true)(h9:((d.toNat:Int)==47)=false)(w:World):Calls Tryz.prog 119 #[.string (tx s),.int .i64 i] w (Ret w (vTk 3 ((s.take (j+1)).drop j) j (j+1))):=by
 obtain⟨n,hn⟩: ∃n,(tx s).size=n:=⟨_,rfl⟩;have HN:=hid (show n=s.length by rw[<-hn,tx_size]);have hnb:n<=262144:=by rw[HN.out];exact hl
 have hjn:j<=n:=by rw[HN.out];exact hj
 have HS:=hid hb;clear hb;have hjlt:j<n:=by have:=(List.getElem?_eq_some_iff.1 hc).1;have:=HN.out;omega
 obtain⟨b1,b2,b3,b4⟩:=blank4n hcb;have ic:=run_ix s j c hc;clear hc hcb;have HC:=hid hlc;have HD:=hid hdc;clear hlc hdc;have hj2:j+1<n:=by have:=(List.getElem?_eq_some_iff.1 hd).1;have:=HN.out;omega
 have id:=run_ix s (j+1) d hd;rw[show((j+1:Nat):Int)=(j:Int)+1 by omega]at id;clear hd;go_enter Tryz.func119,Tryz.ntmps119;go_wp2_with fail
 go_loop [1] (fun x=> ∃k:Nat,i<=k/\k<=j/\x= .int .i64 k) (fun x=>j-(intOf x).toNat)
 case atStart=>exact⟨i,Nat.le_refl _,hij,rfl⟩
 case round=>
  obtain⟨k,hik,hkj,rfl⟩:=hrel
  by_cases hlt:k<j
  ·obtain⟨x,hx,hxb⟩:=HS.out k hik hlt
   have ix:=run_ix s k x hx;have zk:decide ((k:Int)<(n:Int))=true:=by simp;omega
   clear hx;rcases blank4 hxb with z1|⟨z1,z2⟩|⟨z1,z2,z3⟩|⟨z1,z2,z3,z4⟩
   all_goals clear hxb
   all_goals go_wp2_with fail
   all_goals go_round
   all_goals first|(case rel=>exact⟨k+1,by omega,by omega,by go_num⟩)|skip
   all_goals(case measure=>simp[intOf];omega)
  ·obtain rfl:k=j:=by omega
   have zk:decide ((k:Int)<(n:Int))=true:=by simp;omega
   have zg:decide ((n:Int)<=(k:Int))=false:=by simp;omega
   have zk1:decide ((k:Int)+1<(n:Int))=true:=by simp;omega
   have sl:=run_strsl s k (k+1) (by omega) (by have:=HN.out;omega);rw[show((k+1:Nat):Int)=(k:Int)+1 by omega]at sl
   go_wp2_with (first|(go_at_call 204;refine(r08Letter c _).mono ?_;rintro e w' ⟨rfl,rfl⟩;rw[HC.out])|(go_at_call 200;refine(r08Digit c _).mono ?_;rintro e w' ⟨rfl,rfl⟩;rw[HD.out]))
   exact bodyPost_ret (by first|(simp[results,Tryz.results119,go_sem];done)|(simp[results,Tryz.results119,go_sem];rfl)) rfl ⟨rfl,(by repeat(first|with_reducible assumption|with_reducible exact Below.refl _ _|with_reducible refine Below.setCell ?_ (Nat.le_refl _) _|with_reducible refine Below.setCell ?_ (by simp) _|with_reducible refine Below.alloc ?_ (Nat.le_refl _) _|with_reducible refine Below.alloc ?_ (by simp) _|with_reducible refine Below.alloc ?_ (by simp<;>omega) _|with_reducible refine Below.drew ?_))⟩
end
end Go.Proofs.YtkbbgjloifmmbaaGreatDoor
