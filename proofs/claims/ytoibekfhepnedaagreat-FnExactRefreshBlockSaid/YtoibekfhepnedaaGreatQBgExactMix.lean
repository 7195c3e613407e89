/- Words: no cache; the slices of a cache. -/
import Derived.Test.YtoibekfhepnedaaGreatQBeExactMix
import Derived.Test.YtoibekfhepnedaaGreatQBfExactMix
import Derived.Test.YtoibekfhepnedaaGreatQAwExactMix
set_option linter.unusedVariables false
set_option linter.unusedSimpArgs false

namespace Go.Proofs.YtoibekfhepnedaaGreat
open Go.RowKit
theorem xCz (w:World):T.ows w wW.fs [] [.int .i64 0,.slice none 0 0,.slice none 0 0,.slice none 0 0,.slice none 0 0,.slice none 0 0,.slice none 0 0,.slice none 0 0]:=by
 have h:=none_ows w;exact T.ows_snoc (T.ows_snoc h (T.ow_ints.2 ⟨OwI.nil_ _ _ _,rfl⟩)) (T.ow_ints.2 ⟨OwI.nil_ _ _ _,rfl⟩)
theorem uO {w:World} {x:xX} {p1 p2 p3 p4 p5 p6 p7:Value} (h:T.rds w x.fs [.int .i64 x.zB.zF,p1,p2,p3,p4,p5,p6,p7]):(∃ A l c,p1= .slice A l c)∧(∃ A l c,p2= .slice A l c)∧(∃ A l c,p3= .slice A l c)∧(∃ A l c,p4= .slice A l c)∧(∃ A l c,p5= .slice A l c)∧(∃ A l c,p6= .slice A l c)∧(∃ A l c,p7= .slice A l c):=by
 obtain⟨v1,v2,v3,v4,v5,v6,v7,e,h1,h2,h3,h4,h5,h6,h7⟩:=xX.yV h;injection e with _ e;injection e with e1 e;injection e with e2 e;injection e with e3 e;injection e with e4 e;injection e with e5 e;injection e with e6 e;injection e with e7 e;subst e1 e2 e3 e4 e5 e6 e7;exact⟨T.xD h1,T.xD h2,T.xD h3,T.xD h4,T.xD h5,T.xD h6,T.xD h7⟩
end Go.Proofs.YtoibekfhepnedaaGreat
