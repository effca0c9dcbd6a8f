/- Parts of the proof; conditions: as its theorems name them. -/
import Derived.Test.YtppdgejjmhdjhaaGreatDoorMay
set_option linter.unusedVariables false
set_option linter.unusedSimpArgs false
set_option maxHeartbeats 8000000
set_option maxRecDepth 100000
namespace Go.Proofs.YtppdgejjmhdjhaaGreatDoor
theorem yY:(Tryz.f269.name == "runtime.NumGoroutine")=false∧Tryz.f269.body.isNone=true∧Extern.findNext Tryz.f269=none∧Extern.find Tryz.f269=some (Extern.SlicesOverlaps.overlaps #[39,39] #[4]):=⟨by decide +kernel,by decide +kernel,by kernel_rfl,by kernel_rfl⟩
theorem BQ{l v:Nat}(hvl:v≠l)(xs:List (List MV))(hx:xs.length≤1000000)(i:Nat)(hi:i≤xs.length)(x:List MV) :
  aA Tryz.prog 218 [.vec 2 l 0 xs.length,.int .i64 (i:Int),.vec 2 v 0 1] ((St.none.set l (.row 200 2 xs)).set v (.row 200 2 [x])) (fun r σ'=>∃q,r=.vec 2 q 0 (xs.length+1)∧σ'=St.none.set q (.row 200 2 (xs.take i++x::xs.drop i))):=by
 refine aA.less (Q':=fun r σ'=>∃q,r=.vec 2 q 0 (xs.length+1)∧(St.none.set q (.row 200 2 (xs.take i++x::xs.drop i))).le σ') ?_ (fun r σ' ⟨q,h1,h2⟩=>⟨_,h2,q,h1,rfl⟩)
 have hlv:=Ne.symm hvl
 obtain⟨n,hn⟩:∃n,xs.length=n:=⟨_,rfl⟩
 rw[hn] at hx hi ⊢
 by_cases hin:i=n
 ·refine(mB 95 [.tmp 6] Tryz.func218 ?_)
  repeat' first|(refine wM ?_;intros;rename_i hnl)|refine wZ1 @Tryz.f218.eq_1 ?_|fail
  all_goals
   rename_i q _ _
   exact⟨_,rfl,St.aB (St.none_le _) (by rw[aD,List.take_of_length_le oM,List.drop_of_length_le oM])⟩
 ·have hlt:i<n:=by omega
  refine(aA.gW 95 [.tmp 6] Tryz.func218 rfl rfl rfl rfl ?_)
  refine a8 (b5 ?_)
  repeat' first|refine wZ1 @FXs ?_|fail
  refine bL (a8 (b5 ?_))
  repeat' first|refine wZ1 @FXs ?_|fail
  refine bL (a8 (b5 ?_))
  repeat' first|refine wZ1 @FXs ?_|fail
  refine bL (a8 (b5 ?_))
  repeat' first|refine wZ1 @FXs ?_|fail
  refine bL (a8 (b5 ?_))
  repeat' first|refine wZ1 @FXs ?_|fail
  refine bL (a8 (b5 ?_))
  repeat' first|refine wZ1 @FXs ?_|fail
  refine bL (GO (l:=l) (t:=200) (e:=2) (xs:=xs) sS fun C hC=>?_)
  refine kO (kO (eG [_,_,_,_] _ [_] rfl rfl ?_))
  repeat' first|refine wZ1 @FXs ?_|fail
  refine bL (HT rfl (by rw[B2]) rfl fun hC2=>?_)
  show R _
  repeat' first|refine wZ1 @FXs ?_|fail
  refine bL (CN rfl (fun ht=>?_) (fun ht=>?_))
  ·simp only[decide_eq_true_eq] at ht
   refine kO (eG [_,_,_,_,_,_,_,_] _ [_] rfl rfl ?_)
   repeat' first|refine wZ1 @FXs ?_|fail
   refine bL (uL rfl (by rw[B2]) (by rw[td3];rfl) rfl (by rw[mX];decide) (tt:=200) (xs:=xs) (by rw[mX];simp[St.set, *]) (by rw[mX];rfl) oM rfl oM oM oM (by rw[mX];simp;omega) fun l2 hl2=>?_)
   have e1:(((n:Int)+1) - (i:Int)).toNat=n+1 - i:=by omega
   rw[e1]
   simp only[aV] at hl2
   obtain⟨l3,l4,-⟩:=hl2
   have l3':=Ne.symm l3
   have l4':=Ne.symm l4
   have e2:i+(n+1 - i)=n+1:=by omega
   rw[e2]
   obtain⟨Z,hZ⟩:∃Z,xs.take i++List.replicate (n+1 - i) (td Tryz.prog 200).zero=Z:=⟨_,rfl⟩
   have hZl:Z.length=n+1:=by rw[←hZ];simp;omega
   have hZt:Z.take i=xs.take i:=by rw[←hZ,List.take_append_of_le_length (by simp;omega),List.take_of_length_le (by simp;omega)]
   have hsz:(td Tryz.prog 200).size=2:=by rw[mX]
   rw[hZ,hsz]
   refine bL (jO (bL (a8 (bQ [_,_,_,_] _ [] rfl rfl ?_))))
   repeat' first|refine wZ1 @FXs ?_|fail
   refine bL (gL (l:=l2) (l0:=i) (tt:=200) (xs:=Z) (ys:=[x]) (m:=v) (m0:=0) (nm:=1) (cnt:=1) (n:=n+1 - i) rfl (by rw[B2]) (by rw[mX]) (by rw[hsz];rfl) (by rw[hsz];simp[St.set, *]) oM (by rw[hsz];rfl) (by show min 1 (n+1 - i)=1;omega) (by rw[hsz];simp[fG,St.set, *]) oM ?_)
   rw[hsz]
   show R _
   repeat' first|refine wZ1 @FXs ?_|fail
   have hY:(bC Z i [x]).length=n+1:=by rw[l6 (by simp;omega),hZl]
   have hYt:(bC Z i [x]).take (i+1)=xs.take i++[x]:=by
    unfold bC
    rw[hZt,List.take_append_of_le_length (by simp;omega),List.take_of_length_le (by simp;omega)]
   obtain⟨Y,hYe⟩:∃Y,bC Z i [x]=Y:=⟨_,rfl⟩
   rw[hYe] at hY hYt ⊢
   refine bL (a8 (b5 ?_))
   repeat' first|(refine gN mixed (fun _ _=>none) [_,_,_,_,_,_,_,_] [] rfl dK ?_)|refine wZ1 @FXs ?_|fail
   repeat' first|refine wZ1 @FXs ?_|fail
   refine bL (gL (l:=l2) (l0:=i+1) (tt:=200) (xs:=Y) (ys:=xs.drop i) (m:=l) (m0:=i) (nm:=n - i) (cnt:=n - i) (n:=n - i) rfl (by rw[B2]) (by rw[mX]) (by rw[hsz];rfl) (by rw[hsz];simp[St.set, *]) oM (by rw[hsz];rfl) (by show min (n - i) (n - i)=n - i;omega) (by rw[hsz];simp[fG,St.set, *];exact List.take_of_length_le (by rw[List.length_drop];omega)) oM ?_)
   have hF:bC Y (i+1) (xs.drop i)=xs.take i++x::xs.drop i:=by
    have hd:Y.drop (i+1+(xs.drop i).length)=[]:=List.drop_of_length_le (by rw[List.length_drop];omega)
    unfold bC
    rw[hYt,hd]
    simp
   rw[hsz,hF]
   refine bL (b5 ?_)
   repeat' first|refine wZ1 @FXs ?_|fail
   exact⟨l2,rfl,St.aB (St.none_le _) (aD _ _ _)⟩
  ·simp only[decide_eq_false_iff_not] at ht
   have hsz:(td Tryz.prog 200).size=2:=by rw[mX]
   refine jO (bL (b5 ?_))
   repeat' first|refine wZ1 @FXs ?_|fail
   refine bL (kO (eG [_,_,_,_] _ [_] rfl rfl ?_))
   repeat' first|refine wZ1 @FXs ?_|fail
   refine bL (A2 rfl (by rw[B2]) (by rw[mX]) (by rw[hsz];rfl) rfl oM oM ?_)
   rw[hsz]
   show R _
   repeat' first|refine wZ1 @FXs ?_|fail
   refine bL (jO (bL (a8 (a8 (bQ [_,_,_,_,_,_] _ [_] rfl rfl ?_)))))
   repeat' first|refine wZ1 @FXs ?_|fail
   refine bL (uM rfl Tryz.func269 yY.1 yY.2.1 yY.2.2.1 yY.2.2.2 (by rw[B2]) (by rw[mX]) hvl rfl rfl (ta:=200) (tb:=200) (ea:=2) (eb:=2) (xs:=[x]) (ys:=xs) rfl rfl sS sS ?_)
   show R _
   repeat' first|refine wZ1 @FXs ?_|fail
   refine bL (CO rfl (fun _=>a8 (b5 ?_)) (fun h=>by cases h))
   repeat' first|(refine gN mixed (fun _ _=>none) [_,_,_,_,_,_,_,_] [] rfl dK ?_)|refine wZ1 @FXs ?_|fail
   refine bL (gL (l:=l) (l0:=i+1) (tt:=200) (xs:=xs) (ys:=xs.drop i) (m:=l) (m0:=i) (nm:=n+1 - i) (cnt:=n - i) (n:=n - i) rfl (by rw[B2]) (by rw[mX]) (by rw[hsz];rfl) (by rw[hsz];simp[St.set, *]) oM (by rw[hsz];rfl) (by show min (n+1 - i) (n - i)=n - i;omega) (by rw[hsz];simp[fG,St.set, *];exact List.take_of_length_le (by rw[List.length_drop];omega)) oM ?_)
   obtain⟨Y,hYe⟩:∃Y,bC xs (i+1) (xs.drop i)=Y:=⟨_,rfl⟩
   have hYl:Y.length=n+1:=by rw[←hYe];unfold bC;simp;omega
   have hY1:Y.take i=xs.take i:=by rw[←hYe];unfold bC;rw[List.append_assoc,List.take_append_of_le_length (by simp;omega),List.take_take];congr 1;omega
   have hY2:Y.drop (i+1)=xs.drop i:=by
    have hd:xs.drop (i+1+(xs.drop i).length)=[]:=List.drop_of_length_le (by rw[List.length_drop];omega)
    rw[←hYe];unfold bC;rw[hd,List.append_nil,List.drop_left' (by simp;omega)]
   rw[hsz,hYe]
   refine bL (a8 (bQ [_,_,_,_] _ [] rfl rfl ?_))
   repeat' first|refine wZ1 @FXs ?_|fail
   refine bL (gL (l:=l) (l0:=i) (tt:=200) (xs:=Y) (ys:=[x]) (m:=v) (m0:=0) (nm:=1) (cnt:=1) (n:=n+1 - i) rfl (by rw[B2]) (by rw[mX]) (by rw[hsz];rfl) (by rw[hsz];simp[St.set, *]) oM (by rw[hsz];rfl) (by show min 1 (n+1 - i)=1;omega) (by rw[hsz];simp[fG,St.set, *]) oM ?_)
   have hF:bC Y i [x]=xs.take i++x::xs.drop i:=by
    unfold bC
    show(Y.take i++[x])++Y.drop (i+1)=_
    rw[hY1,hY2,List.append_assoc];rfl
   rw[hsz,hF]
   refine bL (b5 ?_)
   repeat' first|refine wZ1 @FXs ?_|fail
   exact⟨l,rfl,St.aB (St.none_le _) (by rw[aG _ _ _ _ hlv];exact aD _ _ _)⟩
end Go.Proofs.YtppdgejjmhdjhaaGreatDoor
