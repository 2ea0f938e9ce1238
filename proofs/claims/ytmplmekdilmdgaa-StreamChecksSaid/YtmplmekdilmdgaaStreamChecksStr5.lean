/- Part of the proof; written by a program out of the texts in wip/. -/
import Derived.Test.YtmplmekdilmdgaaStreamChecksStr4
set_option linter.unusedVariables false
set_option linter.unusedSimpArgs false
namespace Go.Sh
open Go Go.Eng
section
variable {N:Nat} {t:Zg} {u:ZL} {s:Zh}
theorem Zom (l:List Zh) (k:Nat):allB k (fun j => !(idAt l j==idAt l k))=Zle l k:=by
 unfold Zle allB
 rw [List.not_any_eq_all_not]
theorem Zc6 (l:List Zh) (hN:200≤N):ZbB N t l=some (allR t l):=by
 unfold ZbB allR
 rw [ZgZ (by omega),Option.bind_some]
 cases hT:ZeD t with
 | false=>rfl
 | true =>
  have g:=Za1.1 hT
  simp only [Bool.not_true,if_true,Bool.false_eq_true,if_false]
  by_cases h12:l.length≤12
  ·rw [if_neg (by simp;omega),if_pos h12]
   have:=Zau (n:=l.length) (p:=fun k=>ZaH t (l.getD k dS)) (body:=fun x:Int=>Za4 N t l x) (bad:=.inr 321) (fin:=.inl ()) (fun k hk=>by
    unfold Za4
    rw [if_pos (by simp;omega),ZcB hk,Option.bind_some,ZcX hk,Zfn g _ hN,Option.bind_some,ZS (by omega)]
    cases ZaH t l[k]<;>rfl) (by unfold Za4;rw [if_neg (by simp)]) (N:=N) (by omega)
   rw [this,ZhA l dS (ZaH t)]
   cases l.all (ZaH t) with
   | false=>rfl
   | true =>
    simp only [if_true,Option.bind_some]
    have:=Zau (n:=l.length) (p:=Zle l) (body:=fun x:Int=>ZaC N l x) (bad:=.inr 322) (fin:=.inl ()) (fun k hk=>by
     show ZaC N l (k:Int)=_
     unfold ZaC
     rw [if_pos (by simp;omega)]
     have hin:=Zau (n:=k) (p:=fun j => !(idAt l j==idAt l k)) (body:=fun x:Int=>ZaB N l (k:Int) x) (bad:=.inr 322) (fin:=.inl ()) (fun j hj=>by
      show ZaB N l (k:Int) (j:Int)=_
      unfold ZaB
      rw [if_pos (by simp;omega),ZcB (show j<l.length by omega),Option.bind_some,ZcB hk,Option.bind_some,ZS (by omega)]
      have e1:idAt l j=l[j].Id:=by unfold idAt;rw [ZcX (by omega)]
      have e2:idAt l k=l[k].Id:=by unfold idAt;rw [ZcX hk]
      rw [e1,e2]
      cases l[j].Id==l[k].Id<;>rfl) (by show ZaB N l (k:Int) (k:Int)=_;unfold ZaB;rw [if_neg (by simp)]) (N:=N) (by omega)
     rw [hin,Zom,ZS (by omega)]
     cases Zle l k<;>rfl) (by show ZaC N l (l.length:Int)=_;unfold ZaC;rw [if_neg (by simp)]) (N:=N) (by omega)
    rw [this]
    cases allB l.length (Zle l)<;>rfl
  ·rw [if_pos (by simp;omega),if_neg h12]
theorem Zc0 (l:List Zh) (id:Int) (hl:l.length<N) (h6:l.length≤1000):∃ p,ZbU N l id=some p:=by
 unfold ZbU
 obtain ⟨o,o1,_⟩:=Zfd (body:=fun x:Int=>Zci N l id x) (I:=fun x:Int=>∃ k:Nat,x=k∧k≤l.length) (μ:=fun x=>l.length - x.toNat) (Post:=fun _:Unit ⊕ Int × Int=>True) (by
  rintro x ⟨k,rfl,hk⟩
  simp only [Zci]
  by_cases h:k<l.length
  ·rw [if_pos (by simp;omega),ZcB h,Option.bind_some]
   by_cases e:(l[k].Id==id)=true
   ·right;exact ⟨_,by rw [if_pos e],trivial⟩
   ·left;exact ⟨_,by rw [if_neg e,ZS (by omega)],⟨k+1,rfl,by omega⟩,by simp only [Int.toNat_natCast];omega⟩
  ·right;exact ⟨_,by rw [if_neg (by simp;omega)],trivial⟩) N 0 ⟨0,rfl,by omega⟩ (by simp;omega)
 rw [o1,Option.bind_some]
 cases o<;>exact ⟨_,rfl⟩
theorem Zdq (l:List Zh) (id:Int):Zdv N l id=ZbU N l id:=rfl
theorem ite_ex {α:Type} {p:Prop} [Decidable p] {a b:Option α} (ha:∃ j,a=some j) (hb:∃ j,b=some j):∃ j,(if p then a else b)=some j:=by
 split
 ·exact ha
 ·exact hb
theorem Zmd {c:Zcl} (hc:ZeG c) {l:List Zh} (h:Cs N c t u l) (hN:200≤N):∃ a,Zb4 N c t=some a∧a.x0=l∧a.x1.length=l.length:=by
 obtain ⟨_,_,_,hAt,_⟩:=hc
 obtain ⟨a0,a1⟩:=Zdy hAt
 have h6:=h.sl.len
 unfold Zb4
 rw [h.str,Option.bind_some,Zep (by simp;omega) (by omega),List.nil_append,Option.bind_some]
 have key:∀ X:Option (List Zh),(∃ m,X=some m∧m.length=l.length)→∃ a,(X.bind fun j507=>some (Z6.mk l j507))=some a∧a.x0=l∧a.x1.length=l.length:=by
  rintro X ⟨m,rfl,hm⟩
  exact ⟨_,rfl,rfl,hm⟩
 apply key
 by_cases h0:0<l.length
 ·rw [if_pos (by simp only [decide_eq_true_eq];omega),Z5 (by omega) (by omega)]
  obtain ⟨m,m1,m2,m3⟩:=ZdH (v:=c.At) (b:=((List.length l:Nat):Int)) a0 (by omega)
  rw [m1,Option.bind_some]
  obtain ⟨k,rfl⟩:∃ k:Nat,m=k:=⟨m.toNat,by omega⟩
  have hk:k<l.length:=by omega
  rw [ZcB hk,Option.bind_some]
  have fin:∀ X:Option (Int × Int × Int × Int × Int × Int × Int × Int × Int × (List (List Int))),(∃ j,X=some j)→∃ m,(X.bind fun j1018=>(some l[k]).bind fun e1056=>some (List.set l (Int.toNat (k:Int)) (Zh.mk j1018.1 j1018.2.1 j1018.2.2.1 j1018.2.2.2.1 j1018.2.2.2.2.1 j1018.2.2.2.2.2.1 (Zbl.mk j1018.2.2.2.2.2.2.1 j1018.2.2.2.2.2.2.2.1) j1018.2.2.2.2.2.2.2.2.1 j1018.2.2.2.2.2.2.2.2.2)))=some m∧m.length=l.length:=by
   rintro X ⟨j,rfl⟩
   exact ⟨_,rfl,by simp⟩
  apply fin
  have ok:=fun (q:Nat) (hq:q<l.length)=>by have:=(h.sl.ok q hq).1;rw [ZcX hq] at this;exact this
  have sk:=ok k hk
  have s0:=ok 0 h0
  have rk:=Zhi sk (k:=0) (by omega) (by have:=(Zd5 sk).1.1;omega)
  have r0:=Zhi s0 (k:=0) (by omega) (by have:=(Zd5 s0).1.1;omega)
  have lk2:=(Zd5 sk).1.2
  have pk:=ZcK rk.2
  have i0:idx l 0=some l[0]:=ZcB (k:=0) h0
  rw [rk.1,i0]
  simp only [Option.bind_some]
  rw [r0.1]
  simp only [Option.bind_some]
  rw [Zep (l:=[]) (by simp;omega) (by omega)]
  simp only [Option.bind_some,List.nil_append]
  rw [Zep (m:=[Zdd l[k] 0]) (by simp;omega) (by omega),Zep (m:=[Zdd l[0] 0]) (by simp;omega) (by omega)]
  simp only [Option.bind_some]
  have sb:∃ q,subI (Zdd l[k] 0) 1 ((List.length (Zdd l[k] 0):Nat):Int)=some q:=by
   unfold subI
   rw [if_pos ⟨by omega,by omega,by omega⟩]
   exact ⟨_,rfl⟩
  obtain ⟨q,sb⟩:=sb
  rw [sb]
  simp only [Option.bind_some]
  repeat refine ite_ex ⟨_,rfl⟩ ?_
  exact ⟨_,rfl⟩
 ·rw [if_neg (by simp only [decide_eq_true_eq];omega)]
  exact ⟨_,rfl,rfl⟩
theorem ZfW {l:List Zh} (h6:l.length≤100) (hN:200≤N) {body:Int→Option (Int ⊕ (Unit ⊕ Bool))}
  (hb:∀ x:Int,body x=(if (decide (x<((List.length l:Nat):Int))) then ((idx l x).bind fun e513=>((Zal N t e513).bind fun r514=>((idx l x).bind fun e515=>((Zcv N t e515).bind fun r516=>(if (r514 != r516) then (some (.inr (.inr false))) else (some (.inl (w64 (x+1))))))))) else (some (.inr (.inl ()))))):Z2 body N 0=some (.inl ()):=by
 exact ZnJ (n:=l.length) (body:=body) (fin:=.inl ()) 0 (fun k _ hk=>by
  rw [hb,if_pos (by simp;omega),ZcB hk]
  simp only [Option.bind_some]
  rw [ZcP hN,Zj9 hN]
  simp only [Option.bind_some,bne_self_eq_false,Bool.false_eq_true,if_false]
  rw [ZS (by omega)]) (by rw [hb,if_neg (by simp)]) (Nat.zero_le _) (by omega)
theorem StreamChecks_law (c:Zcl) (odd:Zg) (id:Int) (hc:ZeG c) (_:ZjV odd) (_:InK .i64 id):∃ N,ZcL N c odd id=some true:=by
 refine ⟨200+c.L.length,?_⟩
 generalize hN:200+c.L.length=N
 have hN2:200≤N:=by omega
 obtain ⟨t,u,l,h⟩:=case_ok (N:=N) hc (by omega)
 obtain ⟨a,a1,a2,a3⟩:=Zmd hc h hN2
 have h6:=h.sl.len
 obtain ⟨lo,hlo⟩:∃ lo,subI odd.Links 0 (if 30<((List.length odd.Links:Nat):Int) then 30 else ((List.length odd.Links:Nat):Int))=some lo:=by
  unfold subI
  rw [if_pos ⟨by omega,by split<;>omega,by split<;>omega⟩]
  exact ⟨_,rfl⟩
 have l0:a.x0.length≤100:=by rw [a2];omega
 have l1:a.x1.length≤100:=by omega
 have e1:Z2 (fun x:Int=>Zbh N t a x) N 0=some (.inl ()):=ZfW (l:=a.x0) (t:=t) l0 hN2 (fun x=>rfl)
 have e2:Z2 (fun x:Int=>Zbg N odd lo a x) N 0=some (.inl ()):=ZfW (l:=a.x0) (t:=Zg.mk odd.Nodes odd.Station lo) l0 hN2 (fun x=>rfl)
 have e3:Z2 (fun x:Int=>Zbf N t a x) N 0=some (.inl ()):=ZfW (l:=a.x1) (t:=t) l1 hN2 (fun x=>rfl)
 have e4:Z2 (fun x:Int=>Zbe N odd lo a x) N 0=some (.inl ()):=ZfW (l:=a.x1) (t:=Zg.mk odd.Nodes odd.Station lo) l1 hN2 (fun x=>rfl)
 unfold ZcL
 rw [h.topo,Option.bind_some,hlo,Option.bind_some,h.setup,Option.bind_some,Zdf,Option.bind_some,ZeV,Option.bind_some,if_neg (by simp),Zdf,Option.bind_some,ZeV,Option.bind_some,if_neg (by simp),a1,Option.bind_some,
  e1,Option.bind_some]
 simp only
 rw [ZbW _ hN2,Option.bind_some,Zc6 _ hN2,Option.bind_some,if_neg (by simp),e2,Option.bind_some]
 simp only
 obtain ⟨p1,q1⟩:=Zc0 (N:=N) a.x0 id (by omega) (by omega)
 obtain ⟨p2,q2⟩:=Zc0 (N:=N) a.x0 (w64 (1+(w64 ((Int.tmod c.At 7))))) (by omega) (by omega)
 obtain ⟨p3,q3⟩:=Zc0 (N:=N) a.x1 id (by omega) (by omega)
 obtain ⟨p4,q4⟩:=Zc0 (N:=N) a.x1 (w64 (1+(w64 ((Int.tmod c.At 7))))) (by omega) (by omega)
 rw [ZbW _ hN2,Option.bind_some,Zc6 _ hN2,Option.bind_some,if_neg (by simp),Zdq,q1,Option.bind_some,Option.bind_some,if_neg (by simp),Zdq,q2,Option.bind_some,Option.bind_some,if_neg (by simp),e3,Option.bind_some]
 simp only
 rw [ZbW _ hN2,Option.bind_some,Zc6 _ hN2,Option.bind_some,if_neg (by simp),e4,Option.bind_some]
 simp only
 rw [ZbW _ hN2,Option.bind_some,Zc6 _ hN2,Option.bind_some,if_neg (by simp),Zdq,q3,Option.bind_some,Option.bind_some,if_neg (by simp),Zdq,q4,Option.bind_some,Option.bind_some,if_neg (by simp),works22 hN2]
 rfl
end
end Go.Sh

