/- Parts of the proof, joined; conditions: those that its theorems name. -/
import Derived.Test.YtaojijkdamfbnaaGreatDoorMfzj
set_option linter.unusedVariables false
set_option linter.unusedSimpArgs false
set_option maxHeartbeats 4000000
namespace Go.Proofs.YtaojijkdamfbnaaGreatDoor
section
set_option maxRecDepth 100000
set_option maxHeartbeats 8000000
theorem F4{B:BK}(hb:BkR B)(fl:List ND)(mk:UInt32):eX B fl mk 1073741824=(shC B fl).map fun c=>gM c mk:=by
 unfold eX shC
 congr 1
 refine List.filter_congr fun c hc=>?_
 have:=(x9 hb hc).2.2
 rw[decide_eq_true (by omega),Bool.true_and]
end

section
set_option maxHeartbeats 8000000
def leW(W:List CA)(c:Int):List CA:=W.filter fun x=>decide (x.id≤c)
abbrev HY(W:List CA):Prop:=W.Pairwise fun a b=>a.id<b.id
theorem Is{B:BK}(hb:BkR B)(fl:List ND)(mk:UInt32)(c:Int):eX B fl mk c=leW (eX B fl mk 1073741824) c:=by
 unfold eX leW
 rw[List.filter_map,List.filter_filter]
 congr 1
 refine List.filter_congr fun x hx=>?_
 have h:=(x9 hb hx).2.2
 have hp:(gM x mk).id=x.id:=rfl
 simp only[Function.comp,hp]
 rw[decide_eq_true (by omega:x.id≤1073741824),Bool.true_and]
theorem C8{B:BK}(hb:BkR B)(fl:List ND)(mk:UInt32):HY (eX B fl mk 1073741824)∧∀x,x∈eX B fl mk 1073741824→x.id≤1073741824:=by
 rw[F4 hb]
 have h:=pG hb fl
 refine⟨List.pairwise_map.2 h.1,fun x hx=>?_⟩
 obtain⟨y,hy,rfl⟩:=List.mem_map.1 hx
 exact(h.2.1 y hy).2
end

section
open Go.ChangeShapes Go.WideShapes Go.RowKit
set_option maxRecDepth 100000
theorem IE:PC.mayEnter=true:=by kernel_rfl
theorem KZ:PC.mainIs=some (Rows.memberTellsCard.stood.harness.1,Rows.memberTellsCard.stood.harness.2.toList):=by kernel_rfl
theorem II:false=PC.looks []:=by kernel_rfl
end
end Go.Proofs.YtaojijkdamfbnaaGreatDoor
