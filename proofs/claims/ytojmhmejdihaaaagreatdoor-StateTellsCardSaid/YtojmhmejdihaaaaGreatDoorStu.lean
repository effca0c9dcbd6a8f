/- Parts of the proof, joined; conditions: those that its theorems name. -/
import Derived.Test.YtojmhmejdihaaaaGreatDoorStt
set_option linter.unusedVariables false
set_option linter.unusedSimpArgs false
set_option maxHeartbeats 4000000
namespace Go.Proofs.YtojmhmejdihaaaaGreatDoor
set_option maxRecDepth 100000
set_option maxHeartbeats 8000000
def qG(G:List MV)(i:Nat)(a:MV)(c:List MV):List MV:=List.take (i * 12+2) (List.take (i * 12) G++[a]++List.drop (i * 12+1) G)++c++List.drop (i * 12+2+10) (List.take (i * 12) G++[a]++List.drop (i * 12+1) G)
theorem HK{G:List MV}{i:Nat}{a:MV}{c:List MV}(hG:G.length=72)(hc:c.length=10)(h:i<6):(qG G i a c).length=72:=by
 simp[qG,hG,hc]
 omega
theorem Cc{G:List MV}{i k:Nat}{a:MV}{c:List MV}(hG:G.length=72)(hc:c.length=10)(h:i<6)(hk:k<6):(qG G i a c)[12 * k+1]?=G[12 * k+1]?:=by
 have e1:qG G i a c=laid (laid G (i * 12) [a]) (i * 12+2) c:=by simp[qG,laid,hc]
 rw[e1,rQ (by rw[sK (by simp;omega)];omega),if_neg (by omega),rQ (by simp;omega),if_neg (by simp;omega)]
theorem sM(l:List RW)(hl:l.length≤1000000)(hf:∀r,r∈l→r.ans.fl.length≤1000000):aA Tryz.prog 84 [.lst 12 (l.map RW.c) false] St.none (fun r _=>r=.tup [.junk,.bool (cE l)]):=by
 refine aA.seen (aA.body 94 [.tmp 2,.tmp 3] Tryz.func84 rfl rfl rfl rfl ?_)
 by_cases h6:l.length=6
 ·repeat' (first|(refine kP uU ?_;intro g hg)|(with_reducible first|(refine wT ?_;(first|((fail_if_success (have:=nl1));refine wN fun nl1 hnl=>?_)|refine wN fun _ hnl=>?_);revert hnl;(repeat refine wS fun _ _=>?_);intro hnl)|refine wE ?_|(refine wK ?_ ?_<;>intro h)|(refine wB ?_ ?_<;>intro h<;>simp only[h]))|simp(maxSteps:=4000000) (disch:=first|decide|assumption|omega|(simp only[wL];omega)) only[go_sem,simprocAttr,Tryz.f84])
  refine aD (α:=Nat × List MV) (fun a=>⟨94,[(14,.int .i64 (a.1:Int)),(13,.int .i64 6),(12,.lst 12 (l.map RW.c) false),(4,.ptr g 0 0)],[]⟩)
   (fun a=>St.none.set g (.row 262 72 [a.2])) (fun a=>a.1≤6∧a.2.length=72∧(∀k,a.1≤k→k<6→a.2[12 * k+1]?=some (.int .i64 0))∧∀k,k<a.1→qU k (l.getD k rwZ)=true) (fun a=>6 - a.1) ?_ ?_
  ·refine .of (.less ?_ (St.le_refl _)) ⟨(0,kT),rfl,rfl,⟨by simp,rfl,fun k _ hk=>?_,fun k hk=>absurd hk (Nat.not_lt_zero _)⟩⟩
   rotate_left
   ·obtain rfl|rfl|rfl|rfl|rfl|rfl:k=0∨k=1∨k=2∨k=3∨k=4∨k=5:=by omega
    all_goals rfl
   rw[h6]
   simp(maxSteps:=4000000) (disch:=first|decide|assumption|omega|(simp only[wL];omega)) only[go_sem,simprocAttr,aC,aB]
   all_goals first|rfl|(simp;done)
  ·rintro⟨i,G⟩ ⟨hi,hG,hz,hok⟩
   simp only at hi hG hz hok ⊢
   by_cases hi6:i<6
   ·have hat:(l.map RW.c).getD i []=(l.getD i rwZ).c:=aU rwZ (by omega)
    have hml:=hf _ (bK rwZ (by omega:i<l.length))
    obtain⟨r,hr⟩:∃r,l.getD i rwZ=r:=⟨_,rfl⟩
    rw[hr] at hat hml
    have hs:=sQ r.ans re0 hml (by simp[re0])
    have hc:=Ba r.ans hml
    have ho:=Ls r.ans hml
    obtain⟨sb,hsb⟩:∃b,decide (r.ans=re0)=b:=⟨_,rfl⟩
    obtain⟨cb,hcb⟩:∃b,nC r.ans=b:=⟨_,rfl⟩
    rw[hsb] at hs
    rw[hcb] at hc
    obtain⟨C,c1⟩:∃C:bP,(∀ms,C 167 ms=some ⟨[],fun v=>v=.agg r.ans.c,none⟩):=⟨fnF [(167,⟨[],fun v=>v=.agg r.ans.c,none⟩)],fun _=>bN⟩
    have vre0:View St.none (.agg rX) (.agg re0.c):=.Mv ⟨.same _,.same _,.same _,.same _,.same _,.same _,.same _,.same _,.nil 5 false,.same _,trivial⟩ rfl
    have hmin:((if r.ep<r.last then r.ep else r.last)<0)=(r.last<0∨r.ep<0):=propext (by split<;>omega)
    have hmax:(1099511627776<(if r.ep > r.last then r.ep else r.last))=(1099511627776<r.last∨1099511627776<r.ep):=propext (by split<;>omega)
    have bad:qU i r=false→cE l=false:=fun hb=>by
     unfold cE
     rw[Bool.and_eq_false_iff]
     right
     rw[List.all_eq_false]
     exact⟨i,List.mem_range.2 hi6,by rw[hr,hb];simp⟩
    have okI:qU i r=decide (0≤r.last∧r.last≤1099511627776∧0≤r.ep∧r.ep≤1099511627776∧(r.last=0→sb=true)∧(0<r.last→cb=true∧r.ans.dev=i∧r.ans.req=r.last)):=by
     unfold qU big
     rw[←hsb,←hcb]
     exact decide_eq_decide.mpr (by simp only[decide_eq_true_iff])
    cases sb<;>cases cb
    all_goals
     repeat' (first|((with_reducible refine DB [.agg r.ans.c,.agg re0.c] hs rfl (lH (.same _) vre0) ?_))|(with_reducible first|refine up hc ?_)|(with_reducible first|(refine wT ?_;(first|((fail_if_success (have:=nl1));refine wN fun nl1 hnl=>?_)|refine wN fun _ hnl=>?_);revert hnl;(repeat refine wS fun _ _=>?_);intro hnl)|refine wE ?_|(refine wK ?_ ?_<;>intro h)|(refine wB ?_ ?_<;>intro h<;>simp only[h]))|simp(maxSteps:=4000000) (disch:=first|decide|assumption|omega|(simp only[wL];omega)) only[go_sem,simprocAttr,hat,hG,h6,hmin,hmax])
    all_goals try (rw[bad (by rw[okI];exact decide_eq_false (by simp;omega))];exact .two (.junk _) (.same _))
    all_goals refine aJ mixed (by decide +kernel) C ?_
    all_goals
     repeat' (first|(with_reducible refine aF (c1 _) ho ?_)|(with_reducible first|(refine wT ?_;(first|((fail_if_success (have:=nl1));refine wN fun nl1 hnl=>?_)|refine wN fun _ hnl=>?_);revert hnl;(repeat refine wS fun _ _=>?_);intro hnl)|refine wE ?_|(refine wK ?_ ?_<;>intro h)|(refine wB ?_ ?_<;>intro h<;>simp only[h]))|simp(maxSteps:=4000000) (disch:=first|decide|assumption|omega|(simp only[wL];omega)) only[go_sem,simprocAttr,hat,hG,h6])
    all_goals
     have hst:=xQ (l:=g) (o:=i * 12+1) (e:=72) (t:=262) (x:=qG G i (.int .i64 r.last) r.ans.c) (n:=r.ep) (k:=0) (by rw[Nat.mul_comm i 12,Cc hG rfl hi6 hi6];exact hz i (Nat.le_refl _) hi6)
     have hgn:g≠nl1:=by assumption
     refine H5 mixed [(7,g),(6,nl1)] [7,6] rfl [(89,6)] 7 (by decide) (by decide +kernel) (fnF [(168,⟨[g],fun _=>True,some (.row 262 72 [(qG G i (.int .i64 r.last) r.ans.c).set (i * 12+1) (.int .i64 r.ep)],fun _=>.tup [])⟩)]) ?_ ?_ ?_ (by decide) ?_ ?_
     ·intro g' ms F hF l' hl'
      simp only[fnF] at hF
      split at hF
      ·cases hF
       simp only[List.mem_singleton] at hl'
       subst hl'
       rfl
      ·cases hF
     ·intro p hp
      simp only[List.mem_cons,List.not_mem_nil,or_false] at hp
      rcases hp with rfl|rfl
      ·exact⟨0,i * 12,rfl⟩
      ·exact⟨0,0,rfl⟩
     ·simp[hgn]
     ·intro p hp
      simp only[List.mem_cons,List.not_mem_nil,or_false] at hp
      subst hp
      exact⟨by decide,fun l i o h=>absurd h (by simp[FR.get,cH])⟩
     ·repeat' (first|(((with_reducible refine rP bN ?ho hst ?_);(case ho=>exact(aH _ _ _ _ hgn).trans (aM _ _ _))))|(with_reducible first|(refine wT ?_;(first|((fail_if_success (have:=nl1));refine wN fun nl1 hnl=>?_)|refine wN fun _ hnl=>?_);revert hnl;(repeat refine wS fun _ _=>?_);intro hnl)|refine wE ?_|(refine wK ?_ ?_<;>intro h)|(refine wB ?_ ?_<;>intro h<;>simp only[h]))|simp(maxSteps:=4000000) (disch:=first|decide|assumption|omega|(simp only[wL];omega)) only[go_sem,simprocAttr,hat,hG,h6])
      refine .of (.less ?_ (σ1:=St.none.set g (.row 262 72 [(qG G i (.int .i64 r.last) r.ans.c).set (i * 12+1) (.int .i64 r.ep)])) (St.aL (St.none_le _) (by simp[St.set, *]))) ⟨(i+1,(qG G i (.int .i64 r.last) r.ans.c).set (i * 12+1) (.int .i64 r.ep)),rfl,rfl,⟨by simp only;omega,by rw[List.length_set,HK hG rfl hi6],fun k h1 h2=>?_,fun k hk=>?_⟩,by simp only;omega⟩
      ·simp(maxSteps:=4000000) (disch:=first|decide|assumption|omega|(simp only[wL];omega)) only[go_sem,simprocAttr,aC,aB]
       all_goals first|rfl|(simp;done)
      ·simp only at h1
       rw[List.getElem?_set_ne (by omega),Cc hG rfl hi6 h2]
       exact hz k (by omega) h2
      ·simp only at hk
       by_cases hki:k=i
       ·subst hki
        rw[hr,okI]
        exact decide_eq_true (by simp;omega)
       ·exact hok k (by omega)
   ·have:i=6:=by omega
    subst this
    have e:cE l=true:=by
     unfold cE
     rw[Bool.and_eq_true]
     exact⟨decide_eq_true h6,List.all_eq_true.2 fun k hk=>hok k (List.mem_range.1 hk)⟩
    rw[e]
    repeat' (first|(with_reducible first|(refine wT ?_;(first|((fail_if_success (have:=nl1));refine wN fun nl1 hnl=>?_)|refine wN fun _ hnl=>?_);revert hnl;(repeat refine wS fun _ _=>?_);intro hnl)|refine wE ?_|(refine wK ?_ ?_<;>intro h)|(refine wB ?_ ?_<;>intro h<;>simp only[h]))|simp(maxSteps:=4000000) (disch:=first|decide|assumption|omega|(simp only[wL];omega)) only[go_sem,simprocAttr,h6])
    exact .two (.junk _) (.same _)
 ·have e:cE l=false:=by simp[cE,h6]
  rw[e]
  repeat' (first|(with_reducible first|(refine wT ?_;(first|((fail_if_success (have:=nl1));refine wN fun nl1 hnl=>?_)|refine wN fun _ hnl=>?_);revert hnl;(repeat refine wS fun _ _=>?_);intro hnl)|refine wE ?_|(refine wK ?_ ?_<;>intro h)|(refine wB ?_ ?_<;>intro h<;>simp only[h]))|simp(maxSteps:=4000000) (disch:=first|decide|assumption|omega|(simp only[wL];omega)) only[go_sem,simprocAttr,Tryz.f84])
  all_goals first|exact .two (.junk _) (.same _)|(exfalso;omega)
end Go.Proofs.YtojmhmejdihaaaaGreatDoor
