/- Parts of the proof, joined; conditions: those that its theorems name. -/
import Derived.Test.YtaojijkdamfbnaaGreatDoorMezh
set_option linter.unusedVariables false
set_option linter.unusedSimpArgs false
set_option maxHeartbeats 4000000
namespace Go.Proofs.YtaojijkdamfbnaaGreatDoor
section
set_option maxRecDepth 100000
set_option maxHeartbeats 8000000
theorem Gy{B:BK}(hb:BkR B)(fl:List ND)(mk:UInt32):eJ B fl mk 1073741824=(shC B fl).map fun c=>fC c mk:=by
 unfold eJ shC
 congr 1
 refine List.filter_congr fun c hc=>?_
 have:=(r8 hb hc).2.2
 rw[decide_eq_true (by omega),Bool.true_and]
end

section
set_option maxHeartbeats 8000000
def leW(W:List CA)(c:Int):List CA:=W.filter fun x=>decide (x.id≤c)
abbrev NS(W:List CA):Prop:=W.Pairwise fun a b=>a.id<b.id
theorem IX{B:BK}(hb:BkR B)(fl:List ND)(mk:UInt32)(c:Int):eJ B fl mk c=leW (eJ B fl mk 1073741824) c:=by
 unfold eJ leW
 rw[List.filter_map,List.filter_filter]
 congr 1
 refine List.filter_congr fun x hx=>?_
 have h:=(r8 hb hx).2.2
 have hp:(fC x mk).id=x.id:=rfl
 simp only[Function.comp,hp]
 rw[decide_eq_true (by omega:x.id≤1073741824),Bool.true_and]
theorem Dw{B:BK}(hb:BkR B)(fl:List ND)(mk:UInt32):NS (eJ B fl mk 1073741824)∧∀x,x∈eJ B fl mk 1073741824→x.id≤1073741824:=by
 rw[Gy hb]
 have h:=pR hb fl
 refine⟨List.pairwise_map.2 h.1,fun x hx=>?_⟩
 obtain⟨y,hy,rfl⟩:=List.mem_map.1 hx
 exact(h.2.1 y hy).2
end
end Go.Proofs.YtaojijkdamfbnaaGreatDoor
